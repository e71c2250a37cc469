/- FnHeard: what is cut off of a drawn text leaves whoever listens with what came ahead of it: a version that was, never a later one. No condition. Text 1 of 8. -/
import Derived.Calls
import Derived.KernelRfl
import Derived.Laws.AppendOwn
import Derived.Deep.MidRow
import Derived.Laws.Strings
import Derived.Lib.Strings
import Derived.Laws.MakeOwn
import Derived.Laws.BytesString
import Derived.Great.BuildSlice
import Derived.Laws.OwnMore
import Derived.Laws.Slices
import Derived.Laws.IdiomStrings
import Derived.Laws.Tables
import Derived.ChangeKeysEq
import Derived.Laws.StructEq
set_option linter.unusedVariables false
section
/- the types of the program, as data -/
namespace Go.Pi
abbrev Bs:=List UInt8
inductive M where|v|s|d
 deriving DecidableEq
def M.sub:M->M | .d=>.d|_=>.v
inductive TC where
 |u8
 |str
 |int
 |iRow
 |s_iRow
 |iCond
 |iKid
 |iEvent
 |iJson
 |iOp
 |iMut
 |iChange
 deriving DecidableEq
structure am_ where
 b:List Int
 i:Int
 h:Int
structure a7_ where
 cols:List Int
structure TRow where
 id_:Int
 cells:List Int
def TRow.dflt:TRow:=TRow.mk 0 []
structure aA_ where
 schema:a7_
 version:Int
 tables:List (List TRow)
structure ci_ where
 col:Int
 op:Int
 v:Int
def ci_.dflt:ci_:=ci_.mk 0 0 0
structure ax_ where
 table:Int
 where_:List ci_
 order:Int
 down:Bool
 first:Int
 show_:List Int
 kids:Bool
 kidTable:Int
 kidCol:Int
structure TKid where
 id_:Int
 n_:Int
def TKid.dflt:TKid:=TKid.mk 0 0
structure bF_ where
 q:ax_
 rows:List TRow
 kids:List TKid
structure c1_ where
 view:bF_
 version:Int
 last:bF_
 lastVersion:Int
 began:Bool
structure aa_ where
 kind:Int
 n_:Int
 s:Bs
 list:List aa_
 names:List Bs
def aa_.dflt:aa_:=aa_.mk 0 0 [] [] []
def aa_.re (x:aa_):aa_:=aa_.mk x.kind x.n_ x.s x.list x.names
structure TOp where
 kind:Int
 way:List Bs
 value:aa_
def TOp.dflt:TOp:=TOp.mk 0 [] aa_.dflt
structure ar_ where
 kind:Int
 version:Int
 base:Int
 doc:aa_
 ops:List TOp
def ar_.dflt:ar_:=ar_.mk 0 0 0 aa_.dflt []
structure TMut where
 kind:Int
 table:Int
 row:TRow
def TMut.dflt:TMut:=TMut.mk 0 0 TRow.dflt
structure aX_ where
 table:Int
 had:Bool
 has:Bool
 old:TRow
 new:TRow
def aX_.dflt:aX_:=aX_.mk 0 false false TRow.dflt TRow.dflt
structure bf_ where
 doc:aa_
 version:Int
 began:Bool
 bad:Bool
structure aW_ where
 wait:Bs
 bad:Bool
structure bu_ where
 text:Bs
 bad:Bool
structure be_ where
 s:Bs
 at_:Int
 ok:Bool
 left:Int
def El:TC->Type
 |.u8=>Int
 |.str=>Bs
 |.int=>Int
 |.iRow=>TRow
 |.s_iRow=>List TRow
 |.iCond=>ci_
 |.iKid=>TKid
 |.iEvent=>ar_
 |.iJson=>aa_
 |.iOp=>TOp
 |.iMut=>TMut
 |.iChange=>aX_
def El.dflt:(t:TC)->El t
 |.u8=>(0:Int)
 |.str=>([]:Bs)
 |.int=>(0:Int)
 |.iRow=>(TRow.dflt:TRow)
 |.s_iRow=>([]:List TRow)
 |.iCond=>(ci_.dflt:ci_)
 |.iKid=>(TKid.dflt:TKid)
 |.iEvent=>(ar_.dflt:ar_)
 |.iJson=>(aa_.dflt:aa_)
 |.iOp=>(TOp.dflt:TOp)
 |.iMut=>(TMut.dflt:TMut)
 |.iChange=>(aX_.dflt:aX_)
def TC.flat:TC->Bool
 |.u8=>true
 |.str=>true
 |.int=>true
 |.iCond=>true
 |.iKid=>true
 |_=>false
def TC.width:TC->Nat
 |.u8=>1
 |.str=>1
 |.int=>1
 |.iRow=>2
 |.s_iRow=>1
 |.iCond=>3
 |.iKid=>2
 |.iEvent=>9
 |.iJson=>5
 |.iOp=>7
 |.iMut=>4
 |.iChange=>7
def TC.bytes:TC->Nat
 |.u8=>1
 |.str=>16
 |.int=>8
 |.iRow=>32
 |.s_iRow=>24
 |.iCond=>24
 |.iKid=>16
 |.iEvent=>128
 |.iJson=>80
 |.iOp=>112
 |.iMut=>48
 |.iChange=>80
abbrev W (n:Int):Int:=IntKind.i64.wrap n
abbrev i6_ (l:List Int):Bs:=List.map (fun n:Int=>UInt8.ofNat n.toNat) l
end Go.Pi
end
namespace Go.Pi
section
inductive AV:Type where
 |i (k:IntKind) (n:Int)
 |b (b:Bool)
 |s (l:Bs)
 |ag (cs:List AV)
 |tu (vs:List AV)
 |nils
 |sl (m:M) (t:TC) (xs:List (El t))
 |rt (r:Nat)
 |sr (r lo hi:Nat)
 |ns (r st i off:Nat) (t:TC) (xs:List (El t))
 |pb (r off:Nat)
 |pe (r i off:Nat)
 |pc (cs:List AV) (off:Nat)
 |bx (cs:List AV)
 |clo (f:FuncId) (caps:List AV)
 |nilp|nili
 |er (q:Bool)
 |u
instance:Inhabited AV:=⟨.u⟩
structure Hol:Type where
 m:M
 t:TC
 st:Nat
 i:Nat
 xs:List (El t)
inductive Blk:Type where
 |box (cs:List AV)
 |arr (m:M) (t:TC) (st:Nat) (xs:List (El t))
 |ext (q:Option Hol)
structure X where
 h:Nat->Option Blk
 u:Nat->Bool
structure St where
 tmps:Nat->AV
 x:X
def upd {α:Type}(f:Nat->α)(k:Nat)(v:α):Nat->α:=fun x=>cond (Nat.beq x k) v (f x)
def AV.cells:AV->List AV
 |.ag cs=>cs
 |v=>[v]
def AV.isTu:AV->Bool
 |.tu _=>true
 |_=>false
def AV.one:AV->Bool
 |.ag _ | .tu _ | .bx _ | .clo _ _ | .u=>false
 |_=>true
def AV.cel:AV->Bool
 |.ag _ | .tu _ | .bx _ | .clo _ _=>false
 |_=>true
def decSl (t:TC):AV->Option (List (El t))
 |.sl _ t' xs=>if h:t'=t then some (h ▸ xs) else none
 |.nils=>some []
 |_=>none
inductive CK where
 |i|b|s
structure TD where
 size:Nat
 agg:Bool
 zero:List AV
 fields:List (Nat×Nat)
 elem:Option TC
 kind:Option IntKind
 isStr:Bool
 isBool:Bool
 cmp:List CK
 isIf:Bool
def TD.val (d:TD)(cs:List AV):AV:=cond d.agg (.ag cs) (cs.headD .u)
def setRange:List AV->Nat->List AV->List AV
 |l,0,vs=>vs++l.drop vs.length
 |x::l,k+1,vs=>x::setRange l k vs
 |[],_+1,_=>[]
inductive PS where
 |v
 |o
 |mu
 |ag (l:List PS)
 |ptr (l:List PS)
class aj_ where
 enc:M->(t:TC)->El t->List AV
 dec:(t:TC)->List AV->Option (El t)
structure Cx where
 nt:Nat
 tt:Nat->Option TD
 sig:Nat->Option (List PS)
 K:(ω:Type)->Nat->List AV->(AV->List AV->Option ω)->Option ω
 fz:Nat->Bool
def ofValue:Value->AV
 |.int k n=>.i k n
 |.bool b=>.b b
 |.string s=>.s s.data.toList
 |.slice none 0 0=>.nils
 |.pointer none=>.nilp
 |.nilIface=>.nili
 |_=>.u
def St.eval (s:St):Operand->AV
 |.tmp t=>s.tmps t
 |.const v=>ofValue v
 |.func f=>.clo f []
 |.global _=>.u
def X.blk (x:X)(r:Nat)(b:Option Blk):X:=⟨upd x.h r b,x.u⟩
variable {ω:Type}
def X.new (x:X)(r:Nat)(b:Blk)(κ:X->Option ω):Option ω:=cond (x.u r) none (κ ⟨upd x.h r (some b),upd x.u r true⟩)
def M.meet (m:M)(ok:Bool):M:=match m with
 |.d=>cond ok .d .s
 |m=>m
section
variable [aj_]
open aj_
def hF_ (m:M)(r st i:Nat):Nat->List AV->List AV
 |_,[]=>[]
 |j,.sl m' t xs::l=>(match m with | .d=>.ns r st i j t xs|_=>.sl .v t xs)::hF_ m r st i (j+1) l
 |j,c::l=>c::hF_ m r st i (j+1) l
def loadAt (x:X)(n:Nat):AV->Option (List AV)
 |.pb r off=>match x.h r with
  |some (.box cs)=>some ((cs.drop off).take n)
  |_=>none
 |.pe r i off=>match x.h r with
  |some (.arr m t st xs)=>some ((hF_ m r st i 0 (enc .v t (xs.getD i (El.dflt t)))).drop off |>.take n)
  |_=>none
 |.pc cs off=>some ((cs.drop off).take n)
 |_=>none
def bA_ (x:X):List AV->Option (X×List AV×Bool)
 |[]=>some (x,[],true)
 |c::l=>match c with
  |.rt r=>match x.h r with
   |some (.arr m t _ xs)=>match bA_ (x.blk r none) l with
    |some (x',l',ok)=>some (x',.sl m t xs::l',ok&&(match m with | .d=>true | .s=>t.flat | .v=>false))
    |none=>none
   |_=>none
  |.sl .v t xs=>match bA_ x l with
   |some (x',l',_)=>some (x',.sl .v t xs::l',false)
   |none=>none
  |.i k n=>match bA_ x l with
   |some (x',l',ok)=>some (x',.i k n::l',ok)
   |none=>none
  |.b k=>match bA_ x l with
   |some (x',l',ok)=>some (x',.b k::l',ok)
   |none=>none
  |.s k=>match bA_ x l with
   |some (x',l',ok)=>some (x',.s k::l',ok)
   |none=>none
  |.nils=>match bA_ x l with
   |some (x',l',ok)=>some (x',.nils::l',ok)
   |none=>none
  |_=>none
def storeAt (x:X)(v:List AV)(κ:X->Option ω):AV->Option ω
 |.pb r off=>match x.h r with
  |some (.box cs)=>cond (Nat.ble (off+v.length) cs.length) (κ (x.blk r (some (.box (setRange cs off v))))) none
  |_=>none
 |.pe r i off=>match bA_ x v with
  |some (x,v,ok)=>match x.h r with
   |some (.arr m t st xs)=>match cond (Nat.ble (off+v.length) t.width) (dec t (setRange (enc .v t (xs.getD i (El.dflt t))) off v)) none with
    |some y=>κ (x.blk r (some (.arr (m.meet ok) t (st+1) (xs.set i y))))
    |none=>none
   |some (.ext (some ⟨m,t,st,i',xs⟩))=>cond (Nat.beq i i') (cond (Nat.beq off 0&&Nat.beq v.length t.width) (match dec t v with
    |some y=>κ (x.blk r (some (.arr (m.meet ok) t (st+1) (xs.set i y))))
    |none=>none) none) none
   |_=>none
  |none=>none
 |_=>none
def ka_ (x:X)(a v:AV)(k:X->Option ω)(e:Option ω):Option ω :=
 match a,v with
 |.pe r i off,.ns q st i' off' _ _=>cond (Nat.beq r q) (match x.h r with
  |some (.arr _ _ st' _)=>cond (Nat.beq st st') (cond (Nat.beq i i') (cond (Nat.beq off off') (k x) none) none) none
  |_=>none) e
 |_,_=>e
omit [aj_] in
theorem self_or {x:X}{a v:AV}{k:X->Option ω}{e:Option ω}{r:ω}(h:ka_ x a v k e=some r) :
  e=some r\/∃ q i off st t ys m t' xs,a = .pe q i off/\v = .ns q st i off t ys/\x.h q=some (.arr m t' st xs)/\k x=some r:=by
 unfold ka_ at h;split at h
 . rename_i q i off q' st i' off' t ys
   cases B:Nat.beq q q' with
   |false=>rw [B] at h;exact .inl h
   |true=>
    rw [B] at h;have B:=Nat.eq_of_beq_eq_true B;subst B;simp only [cond_true] at h;split at h
    . rename_i m t' st' xs hq
      cases z:Nat.beq st st' with
      |false=>rw [z] at h;cases h
      |true=>
       rw [z] at h;have z:=Nat.eq_of_beq_eq_true z;subst z;simp only [cond_true] at h;cases u:Nat.beq i i' with
       |false=>rw [u] at h;cases h
       |true=>
        rw [u] at h;have u:=Nat.eq_of_beq_eq_true u;subst u;simp only [cond_true] at h;cases p:Nat.beq off off' with
        |false=>rw [p] at h;cases h
        |true=>
         rw [p] at h;have p:=Nat.eq_of_beq_eq_true p;subst p;exact .inr ⟨q,i,off,st,t,ys,m,t',xs,rfl,rfl,hq,h⟩
    . cases h
 . exact .inl h
def inB (n:Int)(len:Nat)(κ:Option ω):Option ω:=cond (decide (0<=n)) (cond (decide (n<(len:Int))) κ none) none
def jN_ (ty:Option TD)(t:TC)(κ:Option ω):Option ω :=
 match ty with
 |some td=>match td.elem with
  |some te=>cond (decide (t=te)) κ none
  |none=>none
 |none=>none
def strB (ty:Option TD)(κ:Option ω):Option ω :=
 match ty with
 |some td=>cond td.isStr κ none
 |none=>none
def slB (ty:Option TD)(κ:Option ω):Option ω :=
 match ty with
 |some td=>match td.elem with
  |some _=>κ
  |none=>none
 |none=>none
def indexAt (ty:Option TD)(x:X)(a:AV)(n:Int)(κ:X->AV->Option ω):Option ω :=
 match a with
 |.sl .v t xs=>jN_ ty t (inB n xs.length (κ x (.pc (enc .v t (xs.getD n.toNat (El.dflt t))) 0)))
 |.rt r=>match x.h r with
  |some (.arr _ t _ xs)=>jN_ ty t (inB n xs.length (κ x (.pe r n.toNat 0)))
  |some (.ext (some ⟨_,t,_,_,xs⟩))=>jN_ ty t (inB n xs.length (κ x (.pe r n.toNat 0)))
  |_=>none
 |.sr r lo hi=>match x.h r with
  |some (.arr _ t _ xs)=>jN_ ty t (inB n (hi - lo) (κ x (.pe r (lo+n.toNat) 0)))
  |_=>none
 |.ns r st _ _ t ys=>match x.h r with
  |some (.arr m t' st' xs)=>cond (Nat.beq st st') (jN_ ty t (inB n ys.length (κ (x.blk r (some (.arr (m.meet false) t' st' xs))) (.pc (enc .v t (ys.getD n.toNat (El.dflt t))) 0)))) none
  |_=>none
 |_=>none
def lenOf (ty:Option TD)(x:X):AV->Option Nat
 |.s l=>strB ty (some l.length)
 |.sl .v t xs=>slB ty (some xs.length)
 |.rt r=>match x.h r with
  |some (.arr _ _ _ xs)=>slB ty (some xs.length)
  |_=>none
 |.sr r lo hi=>match x.h r with
  |some (.arr _ _ _ _)=>slB ty (some (hi - lo))
  |_=>none
 |.ns r st _ _ t ys=>match x.h r with
  |some (.arr _ _ st' _)=>cond (Nat.beq st st') (slB ty (some ys.length)) none
  |_=>none
 |.nils=>slB ty (some 0)
 |_=>none
def h3_ (v:Option AV)(dflt:Nat):Option Int :=
 match v with
 |none=>some dflt
 |some (.i _ n)=>some n
 |_=>none
def fF_ (lo hi:Int)(len:Nat)(κ:Option ω):Option ω:=cond (decide (0<=lo)) (cond (decide (lo<=hi)) (cond (decide (hi<=(len:Int))) κ none) none) none
def hr_ (ty:Option TD)(x:X)(a:AV)(lo hi:Option AV)(κ:AV->Option ω):Option ω :=
 match lenOf ty x a with
 |none=>none
 |some len=>match h3_ lo 0,h3_ hi len with
  |some l,some h=>match a with
   |.s b=>fF_ l h len (κ (.s ((b.take h.toNat).drop l.toNat)))
   |.sl .v t xs=>jN_ ty t (fF_ l h len (κ (.sl .v t ((xs.take h.toNat).drop l.toNat))))
   |.rt r=>match x.h r with
    |some (.arr _ t _ _)=>jN_ ty t (fF_ l h len (κ (.sr r l.toNat h.toNat)))
    |_=>none
   |.sr r lo _=>match x.h r with
    |some (.arr _ t _ _)=>jN_ ty t (fF_ l h len (κ (.sr r (lo+l.toNat) (lo+h.toNat))))
    |_=>none
   |_=>none
  |_,_=>none
def ms_ (x:X):AV->Option (X×(t:TC)×List (El t)×Bool)
 |.sl .v t ys=>some (x,⟨t,ys,t.flat⟩)
 |.rt r=>match x.h r with
  |some (.arr m t st ys)=>cond t.flat (some (x,⟨t,ys,true⟩)) (some (x.blk r none,⟨t,ys,match m with | .d=>true|_=>false⟩))
  |_=>none
 |.sr r lo hi=>match x.h r with
  |some (.arr m t st ys)=>some (x.blk r (some (.arr (m.meet t.flat) t st ys)),⟨t,(ys.take hi).drop lo,t.flat⟩)
  |_=>none
 |_=>none
def bj_ (n bytes:Nat)(κ:Option ω):Option ω:=cond (decide (n*bytes<=140737488355328)) κ none
def hn_ (te:TC)(x:X)(d:Nat)(a y:AV)(κ:X->AV->Option ω):Option ω :=
 match ms_ x y with
 |none=>none
 |some (x,⟨t,ys,ok⟩)=>cond (decide (t=te)) (match a with
  |.nils=>bj_ ys.length t.bytes (x.new d (.arr (M.meet .d ok) t 0 ys) fun x=>κ x (.rt d))
  |.rt r=>match x.h r with
   |some (.arr m t' _ xs)=>if h:t'=t then
     bj_ (xs.length+ys.length) t.bytes ((x.blk r none).new d (.arr (m.meet ok) t 0 ((h ▸ xs)++ys)) fun x=>κ x (.rt d))
    else none
   |_=>none
  |_=>none) none
def gv_:List CK->List AV->List AV->Option Bool
 |[],[],[]=>some true
 |k::ks,a::l,b::r=>match gv_ ks l r with
  |none=>none
  |some q=>match k,a,b with
   |.i,.i k x,.i k' y=>cond (decide (k=k')) (some (cond (x==y) q false)) none
   |.b,.b x,.b y=>some (cond (x==y) q false)
   |.s,.s x,.s y=>some (cond (x==y) q false)
   |_,_,_=>none
 |_,_,_=>none
def r7_ (ty:Option TD)(op:BinOp)(a b:AV)(κ:AV->Option ω):Option ω :=
 match ty with
 |some td=>match a,b with
  |.ag xs,.ag ys=>match td.cmp with
   |[]=>none
   |k::ks=>match gv_ (k::ks) xs ys with
    |some q=>match op with
     |.eql=>κ (.b q)
     |.neq=>κ (.b (!q))
     |_=>none
    |none=>none
  |_,_=>none
 |none=>none
def erEq (ty:Option TD)(cn:Bool)(op:BinOp)(a b:AV)(κ:AV->Option ω):Option ω :=
 match ty with
 |some td=>cond (td.isIf&&cn) (match a,b with
  |.er q,.nili=>match op with
   |.eql=>κ (.b q)
   |.neq=>κ (.b (!q))
   |_=>none
  |_,_=>none) none
 |none=>none
def AV.isEr:AV->Bool
 |.er _=>true
 |_=>false
def opC:Operand->Bool
 |.const _=>true
 |_=>false
def AV.isAg:AV->Bool
 |.ag _=>true
 |_=>false
def hb_ (op:BinOp)(isB:Bool)(x y:AV)(κ:AV->Option ω):Option ω :=
 match x,y with
 |.i k a,.i k' b=>
  match op with
  |.add=>cond (decide (k=k')) (κ (.i k (k.wrap (a+b)))) none
  |.sub=>cond (decide (k=k')) (κ (.i k (k.wrap (a - b)))) none
  |.mul=>cond (decide (k=k')) (κ (.i k (k.wrap (a*b)))) none
  |.quo=>cond (decide (k=k')) (cond (decide (b=0)) none (κ (.i k (k.wrap (a.tdiv b))))) none
  |.rem=>cond (decide (k=k')) (cond (decide (b=0)) none (κ (.i k (a.tmod b)))) none
  |.eql=>cond (decide (k=k')) (κ (.b (a==b))) none
  |.neq=>cond (decide (k=k')) (κ (.b (a != b))) none
  |.lss=>cond (decide (k=k')) (κ (.b (decide (a<b)))) none
  |.leq=>cond (decide (k=k')) (κ (.b (decide (a<=b)))) none
  |.gtr=>cond (decide (k=k')) (κ (.b (decide (a > b)))) none
  |.geq=>cond (decide (k=k')) (κ (.b (decide (a>=b)))) none
  |.and=>cond (decide (k=k')) (κ (.i k (k.wrap (BitVec.ofInt k.bits a &&& BitVec.ofInt k.bits b).toNat))) none
  |.or=>cond (decide (k=k')) (κ (.i k (k.wrap (BitVec.ofInt k.bits a ||| BitVec.ofInt k.bits b).toNat))) none
  |.xor=>cond (decide (k=k')) (κ (.i k (k.wrap (BitVec.ofInt k.bits a ^^^ BitVec.ofInt k.bits b).toNat))) none
  |.shr=>cond (decide (b<0)) none (κ (.i k (a.fdiv (2 ^ min b.toNat k.bits))))
  |_=>none
 |.s a,.s b=>
  match op with
  |.add=>cond (decide (a.length+b.length<=9223372036854775807)) (κ (.s (a++b))) none
  |.eql=>κ (.b (a==b))
  |.neq=>κ (.b (!(a==b)))
  |.lss=>κ (.b (Op.bytesLess a b))
  |.geq=>κ (.b (!Op.bytesLess a b))
  |.gtr=>κ (.b (!(Op.bytesLess a b||a==b)))
  |.leq=>κ (.b (Op.bytesLess a b||a==b))
  |_=>none
 |.b a,.b b=>
  match op with
  |.eql=>cond isB (κ (.b (a==b))) none
  |.neq=>cond isB (κ (.b (!(a==b)))) none
  |_=>none
 |_,_=>none
def ih_ (src dst:Option TD)(x:X)(a:AV)(κ:AV->Option ω):Option ω :=
 match src,dst with
 |some e,some d=>match d.kind,d.isStr,e.kind,e.elem,a with
  |some k,_,some _,_,.i _ n=>κ (.i k (k.wrap n))
  |none,true,_,some .u8,.rt r=>match x.h r with
   |some (.arr _ .u8 _ xs)=>κ (.s (List.map (fun n:Int=>UInt8.ofNat n.toNat) xs))
   |_=>none
  |none,true,_,some .u8,.sl .v .u8 xs=>κ (.s (List.map (fun n:Int=>UInt8.ofNat n.toNat) xs))
  |none,true,_,some .u8,.nils=>κ (.s [])
  |_,_,_,_,_=>none
 |_,_=>none
def fill (fields:List (Nat×Nat)):List AV->List (Nat×AV)->Option (List AV)
 |cs,[]=>some cs
 |cs,(i,v)::l=>match fields[i]? with
  |some (off,n)=>cond (Nat.beq v.cells.length n&&v.cells.all AV.one&&Nat.ble (off+n) cs.length) (fill fields (setRange cs off v.cells) l) none
  |none=>none
def gV_ (t:TC)(x:X):List AV->Option (X×List (El t)×Bool)
 |[]=>some (x,[],true)
 |v::l=>match bA_ x v.cells with
  |none=>none
  |some (x,cs,ok)=>match dec t cs with
   |none=>none
   |some y=>match gV_ t x l with
    |none=>none
    |some (x,ys,ok')=>some (x,y::ys,ok&&ok')
def AV.plain:AV->Bool
 |.i _ _ | .b _ | .s _ | .nils | .nili | .er _=>true
 |.sl .v _ _=>true
 |.pc _ _=>true
 |_=>false
def ii_ (x:X):List AV->Option (List AV×List Nat)
 |[]=>some ([],[])
 |c::l=>match ii_ x l with
  |none=>none
  |some (l',q)=>match c with
   |.pb r off=>match x.h r with
    |some (.box cs)=>cond (cs.all AV.plain) (some (.pc cs off::l',r::q)) none
    |_=>none
   |c=>cond c.plain (some (c::l',q)) none
mutual
def c4_ (x:X):PS->AV->Option (X×AV×List (Nat×Blk)×List Nat)
 |.ag ps,.ag cs=>match cM_ x ps cs with
  |some (x,cs,ws,q)=>some (x,.ag cs,ws,q)
  |none=>none
 |.ptr ps,.pb r off=>match x.h r with
  |some (.box cs)=>match cM_ (x.blk r none) ps cs with
   |some (x,cs',[],q)=>cond (Nat.beq off 0) (some (x,.bx cs',[(r,.box cs)],q)) none
   |_=>none
  |_=>none
 |.o,.rt r=>match x.h r with
  |some (.arr m t _ xs)=>some (x.blk r none,.sl m t xs,[],[])
  |_=>none
 |.mu,.rt r=>match x.h r with
  |some (.arr m t st xs)=>some (x.blk r none,.sl m t xs,[(r,.arr m t st xs)],[])
  |_=>none
 |.v,.rt r=>match x.h r with
  |some (.arr _ t _ xs)=>some (x,.sl .v t xs,[],[r])
  |_=>none
 |.v,.sr r lo hi=>match x.h r with
  |some (.arr _ t _ xs)=>some (x,.sl .v t ((xs.take hi).drop lo),[],[r])
  |_=>none
 |.v,.ns r st _ _ t ys=>match x.h r with
  |some (.arr _ _ st' _)=>cond (Nat.beq st st') (some (x,.sl .v t ys,[],[r])) none
  |_=>none
 |.v,.sl .v t xs=>some (x,.sl .v t xs,[],[])
 |.v,.i k n=>some (x,.i k n,[],[])
 |.v,.b k=>some (x,.b k,[],[])
 |.v,.s k=>some (x,.s k,[],[])
 |.v,.nils=>some (x,.nils,[],[])
 |.v,.nili=>some (x,.nili,[],[])
 |.v,.er q=>some (x,.er q,[],[])
 |.v,.pc cs off=>some (x,.pc cs off,[],[])
 |.v,.clo f cs=>match ii_ x cs with
  |some (cs,q)=>some (x,.clo f cs,[],q)
  |none=>none
 |.o,.nils=>some (x,.nils,[],[])
 |_,_=>none
def cM_ (x:X):List PS->List AV->Option (X×List AV×List (Nat×Blk)×List Nat)
 |[],[]=>some (x,[],[],[])
 |p::ps,c::cs=>match c4_ x p c with
  |some (x,c,w,q)=>match cM_ x ps cs with
   |some (x,cs,ws,q')=>some (x,c::cs,w++ws,q++q')
   |none=>none
  |none=>none
 |_,_=>none
end
mutual
def fg_ (d:Nat)(x:X)(k:Nat):AV->(X->Nat->AV->Option ω)->Option ω
 |.sl m t xs,κ=>match m with
  |.v=>κ x k (.sl .v t xs)
  |m=>x.new (d*16+k) (.arr m t 0 xs) fun x=>κ x (k+1) (.rt (d*16+k))
 |.bx cs,κ=>eU_ d x k cs fun x k cs=>cond (cs.all AV.one) (x.new (d*16+k) (.box cs) fun x=>κ x (k+1) (.pb (d*16+k) 0)) none
 |.ag cs,κ=>eU_ d x k cs fun x k cs=>cond (cs.all AV.one) (κ x k (.ag cs)) none
 |.tu cs,κ=>eU_ d x k cs fun x k cs=>cond (cs.all fun c => !c.isTu) (κ x k (.tu cs)) none
 |c,κ=>κ x k c
def eU_ (d:Nat)(x:X)(k:Nat):List AV->(X->Nat->List AV->Option ω)->Option ω
 |[],κ=>κ x k []
 |c::cs,κ=>fg_ d x k c fun x k c=>eU_ d x k cs fun x k cs=>κ x k (c::cs)
end
mutual
def AV.shows:AV->Bool
 |.sl .v _ _=>true
 |.sl .s t _ => !t.flat
 |.sl .d _ _=>false
 |.pc _ _=>true
 |.clo _ (_::_)=>true
 |.ag cs=>AV.showsAll cs
 |.tu cs=>AV.showsAll cs
 |.bx cs=>AV.showsAll cs
 |_=>false
def AV.showsAll:List AV->Bool
 |[]=>false
 |c::cs=>c.shows||AV.showsAll cs
end
def nX_ (x:X)(r:Nat)(κ:Option ω):Option ω :=
 match x.h r with
 |none=>κ
 |some _=>none
def cc_ (d:Nat)(x:X)(k:Nat):List (Nat×Blk)->List AV->(X->Nat->Option ω)->Option ω
 |[],[],κ=>κ x k
 |(r,.arr _ t st xs)::rs,.sl m t' ys::vs,κ=>match m with
  |.v=>none
  |m=>cond (decide (t'=t)) (cond (Nat.beq ys.length xs.length) (nX_ x r (cc_ d (x.blk r (some (.arr m t' (st+1) ys))) k rs vs κ)) none) none
 |(r,.box cs)::rs,.bx cs'::vs,κ=>cond (Nat.beq cs'.length cs.length) (eU_ d x k cs' fun x k cs'=>cond (cs'.all AV.one) (nX_ x r (cc_ d (x.blk r (some (.box cs'))) k rs vs κ)) none) none
 |_,_,_=>none
def ij_ (x:X)(a:AV)(κ:Option ω):Option ω :=
 match a with
 |.pb r _=>match x.h r with
  |some (.box _)=>κ
  |_=>none
 |.pe r _ _=>match x.h r with
  |some (.arr ..)=>κ
  |_=>none
 |.pc _ _=>κ
 |_=>none
def dB_ (o:Oper):Nat:=match o.dst with
 |some d=>d+1
 |none=>100000
def seqB:Nat->List Nat->Bool
 |_,[]=>true
 |k,i::l=>Nat.beq i k&&seqB (k+1) l
def gL_ (x:X):List Nat->Bool
 |[]=>true
 |r::l=>(match x.h r with|some _=>true|none=>false)&&gL_ x l
def someB:List Nat->Bool
 |[]=>false
 |_::_=>true
def lF_ (c:Cx)(x:X)(d f:Nat)(args:List AV)(κ:X->AV->Option ω):Option ω :=
 match c.sig f with
 |none=>none
 |some ps=>match cM_ x ps args with
  |none=>none
  |some (x,avs,ws,q)=>cond (gL_ x q) (c.K ω f avs fun r outs=>cond (someB q&&AV.showsAll (r::outs)) none
   (cc_ d x 0 ws outs fun x k=>fg_ d x k r fun x _ v=>κ x v)) none
def pI_ (x:X):PS->AV->Option (X×AV)
 |.v,.rt r=>match x.h r with
  |some (.arr _ t _ xs)=>some (x.blk r none,.sl .v t xs)
  |_=>none
 |.v,.sr r lo hi=>match x.h r with
  |some (.arr _ t _ xs)=>some (x.blk r none,.sl .v t ((xs.take hi).drop lo))
  |_=>none
 |.v,.ns r st _ _ t ys=>match x.h r with
  |some (.arr m t' st' xs)=>cond (Nat.beq st st') (some (x.blk r (some (.arr (m.meet false) t' st' xs)),.sl .v t ys)) none
  |_=>none
 |.v,.pb r off=>match x.h r with
  |some (.box cs)=>cond (cs.all AV.plain) (some (x.blk r none,.pc cs off)) none
  |_=>none
 |_,a=>some (x,a)
def op_ (x:X):List PS->List AV->Option (X×List AV)
 |p::ps,a::az=>match pI_ x p a with
  |some (x,a)=>match op_ x ps az with
   |some (x,az)=>some (x,a::az)
   |none=>none
  |none=>none
 |[],[]=>some (x,[])
 |_,_=>none
def oq_ (x:X)(f:FuncId)(cs:List AV):Option (X×AV):=match op_ x (cs.map fun _=>.v) cs with
 |some (x,cs)=>some (x,.clo f cs)
 |none=>none
def frz (x:X):PS->AV->Option (X×AV)
 |.ag ps,.ag cs=>match op_ x ps cs with
  |some (x,cs)=>some (x,.ag cs)
  |none=>none
 |_,.ag cs=>some (x,.ag cs)
 |_,.tu cs=>some (x,.tu cs)
 |_,.clo f cs=>oq_ x f cs
 |p,a=>pI_ x p a
def gn_ (x:X):List PS->List AV->Option (X×List AV)
 |p::ps,a::az=>match frz x p a with
  |some (x,a)=>match gn_ x ps az with
   |some (x,az)=>some (x,a::az)
   |none=>none
  |none=>none
 |[],[]=>some (x,[])
 |_,_=>none
def AV.isSl:AV->Bool
 |.sl .. => true
 |_=>false
def cK_ (d r st i:Nat)(x:X)(j:Nat):List AV->List AV->(X->List AV->Option ω)->Option ω
 |[],es,κ=>match es with
  |[]=>κ x []
  |_=>none
 |c::l,es,κ=>match es with
  |[]=>none
  |e::es=>match c with
   |.ns q s k off t ys=>cond (Nat.beq q r&&Nat.beq s st&&Nat.beq off j) (cond (Nat.beq k i) (x.new (d*16+8+j) (.arr .d t 0 ys) fun x=>cK_ d r st i x (j+1) l es fun x l=>κ x (.rt (d*16+8+j)::l)) none) none
   |.i k n=>cond e.isSl none (cK_ d r st i x (j+1) l es fun x l=>κ x (.i k n::l))
   |.b q=>cond e.isSl none (cK_ d r st i x (j+1) l es fun x l=>κ x (.b q::l))
   |.s q=>cond e.isSl none (cK_ d r st i x (j+1) l es fun x l=>κ x (.s q::l))
   |_=>none
def o5_:List AV->Option (Nat×Nat×Nat)
 |[]=>none
 |.ns r st i _ _ _::_=>some (r,st,i)
 |_::l=>o5_ l
def keeps:List PS->Bool
 |[]=>false
 |.o::_=>true
 |_::l=>keeps l
def qu_ (d:Nat)(x:X)(p:PS)(a:AV)(κ:X->AV->Option ω):Option ω :=
 match p,a with
 |.ag ps,.ag cs=>cond (keeps ps) (match o5_ cs with
  |some (r,st,i)=>match x.h r with
   |some (.arr .d t st' xs)=>cond (Nat.beq st' st) (cK_ d r st i (x.blk r (some (.ext (some ⟨.d,t,st+1,i,xs⟩)))) 0 cs (enc .d t (xs.getD i (El.dflt t))) fun x cs=>κ x (.ag cs)) none
   |_=>none
  |none=>κ x (.ag cs)) (κ x (.ag cs))
 |_,a=>κ x a
def hg_ (d:Nat)(x:X):List PS->List AV->(X->List AV->Option ω)->Option ω
 |p::ps,a::az,κ=>qu_ d x p a fun x a=>hg_ d x ps az fun x az=>κ x (a::az)
 |_,az,κ=>κ x az
def pQ_ (c:Cx)(x:X)(d f:Nat)(args:List AV)(κ:X->AV->Option ω):Option ω :=
 cond (c.fz f) (match c.sig f with
  |some ps=>match gn_ x ps args with
   |some (x,args)=>lF_ c x d f args κ
   |none=>none
  |none=>none) (lF_ c x d f args κ)
def pR_ (c:Cx)(x:X)(d f:Nat)(args:List AV)(κ:X->AV->Option ω):Option ω:=match c.sig f with
 |some ps=>hg_ d x ps args fun x args=>pQ_ c x d f args κ
 |none=>pQ_ c x d f args κ
def d7_ (c:Cx)(o:Oper)(ρ:Operand->AV)(x:X)(κ:X->AV->Option ω):Option ω :=
 let d:=dB_ o*16
 match o.op with
 |.move a | .assign a=>κ x (ρ a)
 |.pick q a b=>match ρ q with
  |.b t=>cond t (κ x (ρ a)) (κ x (ρ b))
  |_=>none
 |.alloc t=>match c.tt t with
  |some td=>x.new d (.box td.zero) fun x=>κ x (.pb d 0)
  |none=>none
 |.box t a=>match c.tt t with
  |some td=>cond (Nat.beq (ρ a).cells.length td.size&&(ρ a).cells.all AV.one) (x.new d (.box (ρ a).cells) fun x=>κ x (.pb d 0)) none
  |none=>none
 |.build t parts=>match c.tt t with
  |some td=>match fill td.fields td.zero (parts.toList.map fun p=>(p.1,ρ p.2)) with
   |some cs=>cond td.agg (κ x (.ag cs)) none
   |none=>none
  |none=>none
 |.buildSlice t n parts=>match c.tt t with
  |some td=>match td.elem with
   |some te=>cond (Nat.beq n parts.toList.length&&seqB 0 (parts.toList.map fun p=>p.1)&&Nat.ble (n*te.width) 16777216) (match gV_ te x (parts.toList.map fun p=>ρ p.2) with
    |some (x,xs,ok)=>x.new d (.arr (M.meet .d ok) te 0 xs) fun x=>κ x (.rt d)
    |none=>none) none
   |none=>none
  |none=>none
 |.load t a=>match c.tt t with
  |some td=>match loadAt x td.size (ρ a) with
   |some cs=>cond (Nat.beq cs.length td.size&&cs.all AV.cel) (κ x (td.val cs)) none
   |none=>none
  |none=>none
 |.store t a v=>match c.tt t with
  |some td=>cond (Nat.beq (ρ v).cells.length td.size&&(ρ v).cells.all AV.one) (ka_ x (ρ a) (ρ v) (fun x=>κ x (.tu [])) (storeAt x (ρ v).cells (fun x=>κ x (.tu [])) (ρ a))) none
  |none=>none
 |.nilCheck a=>ij_ x (ρ a) (κ x (ρ a))
 |.binOp op t a b _=>cond (ρ a).isAg (r7_ (c.tt t) op (ρ a) (ρ b) (κ x)) (cond (ρ a).isEr (erEq (c.tt t) (opC b) op (ρ a) (ρ b) (κ x)) (hb_ op (match c.tt t with|some td=>td.isBool|none=>false) (ρ a) (ρ b) (κ x)))
 |.unOp op _ a=>match op,ρ a with
  |.not,.b b=>κ x (.b (!b))
  |.neg,.i k n=>κ x (.i k (k.wrap (0 - n)))
  |_,_=>none
 |.convert src dst a=>ih_ (c.tt src) (c.tt dst) x (ρ a) (κ x)
 |.makeFunc (.func f) first caps=>cond (Nat.beq first.toList.length 0&&(caps.toList.map ρ).all AV.one) (κ x (.clo f (caps.toList.map ρ))) none
 |.makeSlice t l cp=>match c.tt t,ρ l,ρ cp with
  |some td,.i _ n,.i _ n'=>match td.elem with
   |some te=>cond (decide (n=n')) (cond (decide (0<=n)) (cond (decide (n*te.bytes<=140737488355328)) (x.new d (.arr .d te 0 (List.replicate n.toNat (El.dflt te))) fun x=>κ x (.rt d)) none) none) none
   |none=>none
  |_,_,_=>none
 |.slice t a lo hi mx=>match mx with
  |none=>hr_ (c.tt t) x (ρ a) (lo.map ρ) (hi.map ρ) (κ x)
  |some _=>none
 |.fieldAddr t a f=>match c.tt t with
  |some td=>match td.fields[f]? with
   |some (off,_)=>ij_ x (ρ a) (match ρ a with
    |.pb r o=>κ x (.pb r (o+off))
    |.pe r i o=>κ x (.pe r i (o+off))
    |.pc cs o=>κ x (.pc cs (o+off))
    |_=>none)
   |none=>none
  |none=>none
 |.indexAddr t a ix=>match ρ ix with
  |.i _ n=>indexAt (c.tt t) x (ρ a) n κ
  |_=>none
 |.index t a ix=>match ρ a,ρ ix with
  |.s l,.i _ n=>strB (c.tt t) (inB n l.length (κ x (.i .u8 ((l.getD n.toNat 0).toNat:Int))))
  |_,_=>none
 |.extract t k=>match ρ t with
  |.tu vs=>match vs[k]? with
   |some v=>cond v.isTu none (κ x v)
   |none=>none
  |_=>none
 |.call q=>match q.callee with
  |.builtin .len=>match q.args.toList,q.argTypes.toList with
   |[a],[t]=>match lenOf (c.tt t) x (ρ a) with
    |some n=>κ x (.i .i64 (n:Int))
    |none=>none
   |_,_=>none
  |.builtin .append=>match q.args.toList,q.argTypes.toList with
   |[a,y],[t,t']=>cond (Nat.beq t t') (match c.tt t with
    |some td=>match td.elem with
     |some te=>hn_ te x d (ρ a) (ρ y) κ
     |none=>none
    |none=>none) none
   |_,_=>none
  |.builtin .max=>match q.args.toList with
   |[a,b]=>match ρ a,ρ b with
    |.i k n,.i _ m=>κ x (.i k (cond (decide (m > n)) m n))
    |_,_=>none
   |_=>none
  |.builtin .min=>match q.args.toList with
   |[a,b]=>match ρ a,ρ b with
    |.i k n,.i _ m=>κ x (.i k (cond (decide (m<n)) m n))
    |_,_=>none
   |_=>none
  |.value g=>match ρ g with
   |.clo f caps=>pR_ c x (dB_ o) f ((q.args.toList.map ρ)++caps) κ
   |_=>none
  |_=>none
 |_=>none
def St.put (c:Cx)(s:St)(dst:Option Tmp)(x:X)(v:AV)(κ:St->Option ω):Option ω :=
 match dst with
 |none=>κ ⟨s.tmps,x⟩
 |some d=>cond (Nat.blt d c.nt) (κ ⟨upd s.tmps d v,x⟩) none
def tC_ (c:Cx)(o:Oper)(s:St)(κ:St->Option ω):Option ω :=
 d7_ c o s.eval s.x fun x v=>s.put c o.dst x v κ
def jx_ (c:Cx)(ops:List Oper)(o:Oper)(s:St) (step:St->(St->Option ω)->Option ω) (κ:St->Option ω):Option ω :=
 match o.guard with
 |none=>step s κ
 |some (j,want)=>match ops[j]? with
  |some oj=>match oj.dst with
   |some dj=>match s.tmps dj with
    |.b b=>cond b
     (let s:St:=⟨upd s.tmps dj (.b true),s.x⟩
      cond want (step s κ) (s.put c o.dst s.x (.tu []) κ))
     (let s:St:=⟨upd s.tmps dj (.b false),s.x⟩
      cond want (s.put c o.dst s.x (.tu []) κ) (step s κ))
    |.tu []=>s.put c o.dst s.x (.tu []) κ
    |_=>none
   |none=>none
  |none=>none
def opsK (c:Cx)(ops:List Oper):List Oper->St->(St->Option ω)->Option ω
 |[],s,κ=>κ s
 |o::l,s,κ=>jx_ c ops o s (tC_ c o) fun s=>opsK c ops l s κ
def AV.refs:AV->List Nat
 |.rt r=>[r]
 |.sr r _ _=>[r]
 |.ns r _ _ _ _ _=>[r]
 |.pb r _=>[r]
 |.pe r _ _=>[r]
 |_=>[]
def AV.refsD:AV->List Nat
 |.ag cs=>cs.flatMap AV.refs
 |.clo _ cs=>cs.flatMap AV.refs
 |c=>c.refs
def gr_ (l:List Nat):List Nat->List Nat
 |[]=>l
 |r::rs=>gr_ (cond (l.any (Nat.beq r)) l (l++[r])) rs
def Blk.refs:Blk->List Nat
 |.box cs=>cs.flatMap AV.refs
 |_=>[]
def nY_ (h:Nat->Option Blk):Nat->List Nat->List Nat
 |0,l=>l
 |n+1,l=>nY_ h n (gr_ l (l.flatMap fun r=>match h r with|some b=>b.refs|none=>[]))
def accN (o:Oper):Nat:=match o.op with
 |.fieldAddr .. => 0
 |.load .. => 0
 |_=>2
def isMove (o:Oper):Bool:=match o.op with
 |.move _=>true
 |_=>false
def jn_ (s:St)(o:Oper):List Nat:=cond (isMove o) [] (nY_ s.x.h (accN o) (gr_ [] (o.op.operands.toList.flatMap fun a=>(s.eval a).refsD)))
def inR (acc:List Nat)(d r:Nat):Bool:=acc.any (Nat.beq r)||Nat.beq (r / 16) d
end
end
section
structure Env where
 P:Program
 eid:TC->TypeId
 globs:List (Nat×(Array Value->Prop)):=[]
def Glob (E:Env)(w:World)(F:Nat->Prop):Prop:=∀ p,p ∈ E.globs->(∃ cs T fr,w.heap[p.1]?=some (.cells cs T fr)/\p.2 cs)/\¬ F p.1
def AV.asView:AV->AV
 |.sl _ t xs=>.sl .v t xs
 |.bx _=>.u
 |.ag _=>.u
 |.tu _=>.u
 |a=>a
def cG_ (v:Value)(b:Nat):Nat:=match v with
 |.slice (some a) _ _=>if a.block=b then 1 else 0
 |_=>0
def AV.sim (m:M):AV->AV->Prop
 |.sl _ t xs,c=>c = .sl m t xs
 |.nils,c=>∃ t,c = .sl m t []
 |.i k n,c=>c = .i k n
 |.b q,c=>c = .b q
 |.s l,c=>c = .s l
 |_,_=>False
def sims (m:M):List AV->List AV->Prop
 |[],[]=>True
 |a::l,c::r=>AV.sim m a c/\sims m l r
 |_,_=>False
def AV.okD:AV->Bool
 |.sl .d _ _=>true
 |.sl .s t _=>t.flat
 |.sl .v _ _=>false
 |_=>true
section
variable {w w':World}
theorem kc_ {b o:Nat}{vals:List Value}(h:w.rangeAt b o vals)(e:w'.heap[b]?=w.heap[b]?):w'.rangeAt b o vals:=by intro j v k;rw [World.cell?_of_block (a:=⟨b,o+j,none⟩) e];exact h j v k
theorem hU_ {base e size:Nat}{v:Value}{n:Nat}{xs:List Value}(h:w.ownsRow base e size v n xs)(hb:∀ b,cG_ v b≠0->w'.heap[b]?=w.heap[b]?):w'.ownsRow base e size v n xs:=by
 refine ⟨h.1,?_⟩;rcases h.2 with hn|⟨g,cap,cur,rfl,k,m,jl_⟩
 . exact .inl hn
 . exact .inr ⟨g,cap,cur,rfl,k,by rw [hb g (by simp [cG_])];exact m,jl_⟩
end
variable [aj_]
open aj_
class ai_:Prop where
 len:∀ m t x,(enc m t x).length=t.width
 pos:∀ t:TC,0<t.width
 view:∀ m t x,(enc m t x).map AV.asView=enc .v t x
 flat:∀ m m' t x,t.flat=true->enc m t x=enc m' t x
 cell:∀ m t x a,a ∈ enc m t x->(∃ k n,a = .i k n)\/(∃ q,a = .b q)\/(∃ l,a = .s l)\/∃ t' xs,a = .sl m t' xs
 dec:∀ m t cs (y:El t),dec t cs=some y->sims m cs (enc m t y)
 u8:∀ m (n:El .u8),enc m .u8 n=[.i .u8 (show Int from n)]
def aT_ (m:M)(t:TC) (xs:List (El t)):List AV:=xs.flatMap (enc m t)
def scl:AV->Value->Prop
 |.i k n,v=>v = .int k n
 |.b q,v=>v = .bool q
 |.s l,v=>v = .string ⟨l.toArray⟩
 |.nils,v=>v = .slice none 0 0
 |.nilp,v=>v = .pointer none
 |.nili,v=>v = .nilIface
 |.er q,v=>(q=true->v = .nilIface)/\(q=false->∃ t u,v = .iface t u)
 |.u,_=>True
 |.clo f [],v=>v = .func (.func f) #[] #[]
 |_,_=>False
inductive RL (E:Env) (w:World) (F:Nat->Prop):List AV->List Value->(Nat->Nat)->Prop
 |nil (φ):(∀ b,φ b=0)->RL E w F [] [] φ
 |scal (a v l vs φ):scl a v->RL E w F l vs φ->RL E w F (a::l) (v::vs) φ
 |view (t xs a n cap vals z l vs φ):n=xs.length/\n<=cap->RL E w F (aT_ .v t xs) vals z->(∀ b,z b=0) ->
   (0<n->∃ b o,a=some ⟨b,o,none⟩/\w.rangeAt b o vals/\b<w.heap.size/\¬ F b)->RL E w F l vs φ ->
   RL E w F (.sl .v t xs::l) (.slice a n cap::vs) φ
 |own (m t xs v vals φ₁ l vs φ₂ φ):m ≠ .v->w.ownsRow 0 (E.eid t) t.width v xs.length vals->RL E w F (aT_ m.sub t xs) vals φ₁ ->
   (∀ b,cG_ v b≠0->F b)->RL E w F l vs φ₂->(∀ b,φ b=cG_ v b+φ₁ b+φ₂ b)->RL E w F (.sl m t xs::l) (v::vs) φ
 |pc (cs b o off vals z l vs φ):RL E w F cs vals z->(∀ b,z b=0)->w.rangeAt b o vals->b<w.heap.size->¬ F b->RL E w F l vs φ ->
   RL E w F (.pc cs off::l) (.pointer (some ⟨b,o+off,none⟩)::vs) φ
 |bx (cs g T cur φ₁ l vs φ₂ φ):w.heap[g]?=some (.cells (List.toArray cur) T (0,0))->RL E w F cs cur φ₁->F g->RL E w F l vs φ₂ ->
   (∀ b,φ b=(if g=b then 1 else 0)+φ₁ b+φ₂ b)->RL E w F (.bx cs::l) (.pointer (some ⟨g,0,none⟩)::vs) φ
 |ag (cs us φ₁ l vs φ₂ φ):RL E w F cs us φ₁->RL E w F l vs φ₂->(∀ b,φ b=φ₁ b+φ₂ b)->RL E w F (.ag cs::l) (.agg us.toArray::vs) φ
 |tu (cs us φ₁ l vs φ₂ φ):RL E w F cs us φ₁->RL E w F l vs φ₂->(∀ b,φ b=φ₁ b+φ₂ b)->RL E w F (.tu cs::l) (.tuple us.toArray::vs) φ
 |clo (f cs us z l vs φ):RL E w F cs us z->(∀ b,z b=0)->RL E w F l vs φ->RL E w F (.clo f cs::l) (.func (.func f) #[] us.toArray::vs) φ
variable {E:Env} {w w':World} {F F':Nat->Prop}
theorem RL.congr {l vs φ ψ}(h:RL E w F l vs φ)(e:∀ b,φ b=ψ b):RL E w F l vs ψ:=by have:φ=ψ:=funext e;exact this ▸ h
theorem RL.length {l vs φ}(h:RL E w F l vs φ):l.length=vs.length:=by induction h<;>simp_all
theorem RL.frame {l vs φ}(h:RL E w F l vs φ)(hs:w.heap.size<=w'.heap.size)(hφ:∀ b,φ b≠0->w'.heap[b]?=w.heap[b]?/\F' b)
  (B:∀ b,b<w.heap.size->¬ F b->w'.heap[b]?=w.heap[b]?/\¬ F' b):RL E w' F' l vs φ:=by
 induction h with
 |nil φ I=>exact .nil φ I
 |scal a v l vs φ hsc _ ih=>exact .scal a v l vs φ hsc (ih hφ)
 |view t xs a n cap vals z l vs φ hn _ p hb _ ih1 ih2=>
  refine .view t xs a n cap vals z l vs φ hn (ih1 fun b hb=>absurd (p b) hb) p (fun I => ?_) (ih2 hφ);obtain ⟨b,o,rfl,hr,k,u⟩:=hb I;exact ⟨b,o,rfl,kc_ hr (B b k u).1,Nat.lt_of_lt_of_le k hs,(B b k u).2⟩
 |own m t xs v vals φ₁ l vs φ₂ φ hm how _ u _ he ih1 ih2=>
  refine .own m t xs v vals φ₁ l vs φ₂ φ hm (hU_ how fun b hb=>(hφ b (by rw [he];omega)).1) (ih1 fun b hb=>hφ b (by rw [he];omega)) (fun b hb=>(hφ b (by rw [he];omega)).2) (ih2 fun b hb=>hφ b (by rw [he];omega)) he
 |pc cs b o off vals z l vs φ _ p hr k u _ ih1 ih2=>
  exact .pc cs b o off vals z l vs φ (ih1 fun b hb=>absurd (p b) hb) p (kc_ hr (B b k u).1) (Nat.lt_of_lt_of_le k hs) (B b k u).2 (ih2 hφ)
 |bx cs g T cur φ₁ l vs φ₂ φ hg _ u _ he ih1 ih2=>
  have J:=hφ g (by rw [he,if_pos rfl];omega);exact .bx cs g T cur φ₁ l vs φ₂ φ (by rw [J.1];exact hg) (ih1 fun b hb=>hφ b (by rw [he];omega)) J.2 (ih2 fun b hb=>hφ b (by rw [he];omega)) he
 |ag cs us φ₁ l vs φ₂ φ _ _ he ih1 ih2=>exact .ag cs us φ₁ l vs φ₂ φ (ih1 fun b hb=>hφ b (by rw [he];omega)) (ih2 fun b hb=>hφ b (by rw [he];omega)) he
 |tu cs us φ₁ l vs φ₂ φ _ _ he ih1 ih2=>exact .tu cs us φ₁ l vs φ₂ φ (ih1 fun b hb=>hφ b (by rw [he];omega)) (ih2 fun b hb=>hφ b (by rw [he];omega)) he
 |clo f cs us z l vs φ _ p _ ih1 ih2=>exact .clo f cs us z l vs φ (ih1 fun b hb=>absurd (p b) hb) p (ih2 hφ)
theorem RL.low {l vs φ}(h:RL E w F l vs φ):∀ b,φ b≠0->F b/\b<w.heap.size:=by
 induction h with
 |nil φ J=>intro b hb;exact absurd (J b) hb
 |scal a v l vs φ hsc _ ih=>exact ih
 |view t xs a n cap vals z l vs φ hn _ hz hb _ ih1 ih2=>exact ih2
 |own m t xs v vals φ₁ l vs φ₂ φ hm u _ hF _ he ih1 ih2=>
  intro b hb;rw [he] at hb;by_cases p:cG_ v b=0
  . by_cases k:φ₁ b=0
    . exact ih2 b (by omega)
    . exact ih1 b k
  . refine ⟨hF b p,?_⟩
    rcases u.2 with ⟨rfl,_⟩|⟨g,cap,cur,rfl,I,B,jl_⟩
    . simp [cG_] at p
    . have:g=b:=by simp [cG_] at p;exact p
      subst this;exact (Array.getElem?_eq_some_iff.1 B).1
 |pc cs b o off vals z l vs φ _ hz hr hlt hF _ ih1 ih2=>exact ih2
 |bx cs g T cur φ₁ l vs φ₂ φ B _ hF _ he ih1 ih2=>
  intro b hb;rw [he] at hb;by_cases p:g=b
  . subst p;exact ⟨hF,(Array.getElem?_eq_some_iff.1 B).1⟩
  . by_cases k:φ₁ b=0
    . exact ih2 b (by simp [p] at hb;omega)
    . exact ih1 b k
 |ag cs us φ₁ l vs φ₂ φ _ _ he ih1 ih2=>
  intro b hb;rw [he] at hb;by_cases k:φ₁ b=0
  . exact ih2 b (by omega)
  . exact ih1 b k
 |tu cs us φ₁ l vs φ₂ φ _ _ he ih1 ih2=>
  intro b hb;rw [he] at hb;by_cases k:φ₁ b=0
  . exact ih2 b (by omega)
  . exact ih1 b k
 |clo f cs us z l vs φ _ hz _ ih1 ih2=>exact ih2
theorem RL.append {l vs φ}(h:RL E w F l vs φ):∀ {l' vs' φ' ψ},RL E w F l' vs' φ'->(∀ b,ψ b=φ b+φ' b)->RL E w F (l++l') (vs++vs') ψ:=by
 induction h with
 |nil φ U=>intro l' vs' φ' ψ h' e;exact h'.congr fun b=>by rw [e,U];omega
 |scal a v l vs φ B _ ih=>intro l' vs' φ' ψ h' e;exact .scal a v _ _ _ B (ih h' e)
 |view t xs a n cap vals z l vs φ hn k p hb _ _ ih2=>intro l' vs' φ' ψ h' e;exact .view t xs a n cap vals z _ _ _ hn k p hb (ih2 h' e)
 |own m t xs v vals φ₁ l vs φ₂ φ O I k u _ he _ ih2=>intro l' vs' φ' ψ h' e;exact .own m t xs v vals φ₁ _ _ _ _ O I k u (ih2 h' fun b=>rfl) fun b=>by rw [e,he];omega
 |pc cs b o off vals z l vs φ k p hr J u _ _ ih2=>intro l' vs' φ' ψ h' e;exact .pc cs b o off vals z _ _ _ k p hr J u (ih2 h' e)
 |bx cs g T cur φ₁ l vs φ₂ φ S k u _ he _ ih2=>intro l' vs' φ' ψ h' e;exact .bx cs g T cur φ₁ _ _ _ _ S k u (ih2 h' fun b=>rfl) fun b=>by rw [e,he];omega
 |ag cs us φ₁ l vs φ₂ φ k _ he _ ih2=>intro l' vs' φ' ψ h' e;exact .ag cs us φ₁ _ _ _ _ k (ih2 h' fun b=>rfl) fun b=>by rw [e,he];omega
 |tu cs us φ₁ l vs φ₂ φ k _ he _ ih2=>intro l' vs' φ' ψ h' e;exact .tu cs us φ₁ _ _ _ _ k (ih2 h' fun b=>rfl) fun b=>by rw [e,he];omega
 |clo f cs us z l vs φ k p _ _ ih2=>intro l' vs' φ' ψ h' e;exact .clo f cs us z _ _ _ k p (ih2 h' e)
theorem RL.uncons {a l vs φ} (h:RL E w F (a::l) vs φ):∃ v vs' φ₁ φ₂,vs=v::vs'/\RL E w F [a] [v] φ₁/\RL E w F l vs' φ₂/\∀ b,φ b=φ₁ b+φ₂ b:=by
 cases h with
 |scal _ v _ vs _ I k=>exact ⟨v,vs,fun _=>0,φ,rfl,.scal _ _ _ _ _ I (.nil _ fun _=>rfl),k,fun b=>by simp only [Nat.zero_add]⟩
 |view t xs a n cap vals z _ vs _ hn p u hb k=>exact ⟨_,vs,fun _=>0,φ,rfl,.view t xs a n cap vals z _ _ _ hn p u hb (.nil _ fun _=>rfl),k,fun b=>by simp only [Nat.zero_add]⟩
 |own m t xs v vals φ₁ _ vs φ₂ _ S J p B k he=>exact ⟨v,vs,_,φ₂,rfl,.own m t xs v vals φ₁ _ _ (fun _=>0) (fun b=>cG_ v b+φ₁ b) S J p B (.nil _ fun _=>rfl) (fun b=>by simp only [Nat.add_zero]),k,fun b=>by rw [he]⟩
 |pc cs b o off vals z _ vs _ p u hr O B k=>exact ⟨_,vs,fun _=>0,φ,rfl,.pc cs b o off vals z _ _ _ p u hr O B (.nil _ fun _=>rfl),k,fun b=>by simp only [Nat.zero_add]⟩
 |bx cs g T cur φ₁ _ vs φ₂ _ U p B k he=>exact ⟨_,vs,_,φ₂,rfl,.bx cs g T cur φ₁ _ _ (fun _=>0) (fun b=>(if g=b then 1 else 0)+φ₁ b) U p B (.nil _ fun _=>rfl) (fun b=>by simp only [Nat.add_zero]),k,fun b=>by rw [he]⟩
 |ag cs us φ₁ _ vs φ₂ _ p k he=>exact ⟨_,vs,φ₁,φ₂,rfl,.ag cs us φ₁ _ _ (fun _=>0) _ p (.nil _ fun _=>rfl) (fun b=>by simp only [Nat.add_zero]),k,he⟩
 |tu cs us φ₁ _ vs φ₂ _ p k he=>exact ⟨_,vs,φ₁,φ₂,rfl,.tu cs us φ₁ _ _ (fun _=>0) _ p (.nil _ fun _=>rfl) (fun b=>by simp only [Nat.add_zero]),k,he⟩
 |clo f cs us z _ vs _ p u k=>exact ⟨_,vs,fun _=>0,φ,rfl,.clo f cs us z _ _ _ p u (.nil _ fun _=>rfl),k,fun b=>by simp only [Nat.zero_add]⟩
theorem RL.cons {a v l vs φ₁ φ₂ φ}(m:RL E w F [a] [v] φ₁)(k:RL E w F l vs φ₂)(e:∀ b,φ b=φ₁ b+φ₂ b):RL E w F (a::l) (v::vs) φ:=m.append k e
theorem RL.split:∀ {l l' vs φ},RL E w F (l++l') vs φ->∃ us us' φ₁ φ₂,vs=us++us'/\RL E w F l us φ₁/\RL E w F l' us' φ₂/\∀ b,φ b=φ₁ b+φ₂ b
 |[],l',vs,φ,h=>⟨[],vs,fun _=>0,φ,rfl,.nil _ fun _=>rfl,h,fun b=>by simp only [Nat.zero_add]⟩
 |a::l,l',vs,φ,h=>by obtain ⟨v,vs',φ₁,φ₂,rfl,u,p,e⟩:=RL.uncons h;obtain ⟨us,us',ψ₁,ψ₂,rfl,m,k,e'⟩:=RL.split p;exact ⟨v::us,us',_,ψ₂,rfl,u.cons m (fun b=>rfl),k,fun b=>by rw [e,e'];omega⟩
theorem RL.nil_inv {vs φ}(h:RL E w F [] vs φ):vs=[]/\∀ b,φ b=0:=by
 cases h with
 |nil _ h0=>exact ⟨rfl,h0⟩
theorem fd_ [ai_](m:M)(t:TC) (xs:List (El t)):(aT_ m t xs).map AV.asView=aT_ .v t xs:=by
 induction xs with
 |nil=>rfl
 |cons x xs ih=>simp only [aT_,List.flatMap_cons,List.map_append] at *;rw [ai_.view,ih]
theorem RL.seen [ai_]{l vs φ}(h:RL E w F l vs φ)(hφ:∀ b,φ b≠0->¬ F' b)(O:∀ b,b<w.heap.size->¬ F b->¬ F' b):RL E w F' (l.map AV.asView) vs (fun _=>0):=by
 induction h with
 |nil φ S=>exact .nil _ fun _=>rfl
 |scal a v l vs φ I _ ih=>
  refine .scal _ v _ _ _ ?_ (ih hφ);cases a<;>first|exact I|(simp [scl] at I)
 |view t xs a n cap vals z l vs φ hn h1 B hb _ ih1 ih2=>
  refine .view t xs a n cap vals (fun _=>0) _ _ _ hn ?_ (fun _=>rfl) (fun S => ?_) (ih2 hφ)
  . have:=ih1 fun b hb=>absurd (B b) hb
    rwa [fd_] at this
  . obtain ⟨b,o,rfl,hr,k,p⟩:=hb S
    exact ⟨b,o,rfl,hr,k,O b k p⟩
 |own m t xs v vals φ₁ l vs φ₂ φ hm J h1 p _ he ih1 ih2=>
  have Y:=ih1 fun b hb=>hφ b (by rw [he];omega);rw [fd_] at Y;have h4:=ih2 fun b hb=>hφ b (by rw [he];omega);rcases J.2 with ⟨rfl,S⟩|⟨g,cap,cur,rfl,hbb,hg,V,hcm,hcs,U⟩
  . have hx:xs=[]:=List.eq_nil_of_length_eq_zero S
    subst hx;exact .view t [] none 0 0 vals (fun _=>0) _ _ _ ⟨rfl,Nat.le_refl _⟩ Y (fun _=>rfl) (fun Z=>absurd Z (Nat.lt_irrefl 0)) h4
  . refine .view t xs _ xs.length cap vals (fun _=>0) _ _ _ ⟨rfl,V⟩ Y (fun _=>rfl) (fun Z=>⟨g,0,rfl,?_,(Array.getElem?_eq_some_iff.1 hg).1,hφ g (by rw [he];simp [cG_])⟩) h4
    intro j u hu;have:=J.cells (g:=g) rfl j u hu
    rwa [Addr.add_mid] at this
 |pc cs b o off vals z l vs φ h1 B hr k p _ ih1 ih2=>
  exact .pc cs b o off vals z _ _ _ (h1.frame (Nat.le_refl _) (fun b hb=>absurd (B b) hb) (fun b k p=>⟨rfl,O b k p⟩)) B hr k (O b k p) (ih2 hφ)
 |bx cs g T cur φ₁ l vs φ₂ φ hg h1 p _ he ih1 ih2=>exact .scal _ _ _ _ _ trivial (ih2 fun b hb=>hφ b (by rw [he];omega))
 |ag cs us φ₁ l vs φ₂ φ _ _ he ih1 ih2=>exact .scal _ _ _ _ _ trivial (ih2 fun b hb=>hφ b (by rw [he];omega))
 |tu cs us φ₁ l vs φ₂ φ _ _ he ih1 ih2=>exact .scal _ _ _ _ _ trivial (ih2 fun b hb=>hφ b (by rw [he];omega))
 |clo f cs us z l vs φ h1 B _ _ ih2=>exact .clo f cs us z _ _ _ (h1.frame (Nat.le_refl _) (fun b hb=>absurd (B b) hb) (fun b k p=>⟨rfl,O b k p⟩)) B (ih2 hφ)
theorem iQ_ [ai_]{m m':M}{t:TC}(h:t.flat=true) (xs:List (El t)):aT_ m t xs=aT_ m' t xs:=by
 induction xs with
 |nil=>rfl
 |cons x xs ih=>simp only [aT_,List.flatMap_cons] at *;rw [ai_.flat m m' t x h,ih]
theorem RL.sim_d [ai_]:∀ {cs cs':List AV}{vs φ},RL E w F cs vs φ->sims .d cs cs'->cs.all AV.okD=true->RL E w F cs' vs φ
 |[],[],vs,φ,h,_,_=>h
 |a::cs,c::cs',vs,φ,h,hs,u=>by
  obtain ⟨k,p⟩:=hs;simp only [List.all_cons,Bool.and_eq_true] at u;cases h with
  |scal _ v _ vs _ hsc B=>
   have ih:=RL.sim_d B p u.2;cases a<;>simp only [AV.sim] at k<;>first
    |(subst k;exact .scal _ _ _ _ _ hsc ih)
    |(obtain ⟨t,rfl⟩:=k
      simp only [scl] at hsc;subst hsc;exact .own .d t [] _ [] (fun _=>0) _ _ _ _ (by decide) (World.ownsRow_nil _ _ _ _) (.nil _ fun _=>rfl) (fun b hb=>absurd rfl hb) ih (fun b=>by simp [cG_]))
    |exact k.elim
    |simp [scl] at hsc
  |view t xs a n cap vals z _ vs _ hn h1 hz hb B=>simp [AV.okD] at u
  |own m t xs v vals φ₁ _ vs φ₂ _ hm how h1 hF B he=>
   have ih:=RL.sim_d B p u.2;simp only [AV.sim] at k;subst k;refine .own .d t xs v vals φ₁ _ _ φ₂ _ (by decide) how ?_ hF ih he;cases m with
   |v=>exact absurd rfl hm
   |d=>exact h1
   |s=>
    have I:t.flat=true:=u.1;rw [iQ_ I (m:=M.sub .d) (m':=M.sub .s)];exact h1
  |pc=>simp [AV.sim] at k
  |bx=>simp [AV.sim] at k
  |ag=>simp [AV.sim] at k
  |tu=>simp [AV.sim] at k
  |clo=>simp [AV.sim] at k
 |[],_::_,_,_,_,hs,_=>hs.elim
 |_::_,[],_,_,_,hs,_=>hs.elim
theorem RL.sim_v0 [ai_]:∀ {cs cs':List AV}{vs φ},RL E w F (cs.map AV.asView) vs φ->sims .v cs cs'->RL E w F cs' vs φ
 |[],[],vs,φ,h,_=>h
 |a::cs,c::cs',vs,φ,h,hs=>by
  obtain ⟨k,m⟩:=hs;obtain ⟨v,vs',φ₁,φ₂,rfl,p,z,e⟩:=RL.uncons h;have ih:=RL.sim_v0 z m;refine RL.cons ?_ ih e;cases a<;>simp only [AV.sim] at k<;>first
   |(subst k;exact p)
   |(obtain ⟨t,rfl⟩:=k
     cases p with
     |scal _ _ _ _ _ hsc u=>
      simp only [scl,AV.asView] at hsc;subst hsc;exact .view t [] none 0 0 [] (fun _=>0) _ _ _ ⟨rfl,Nat.le_refl _⟩ (.nil _ fun _=>rfl) (fun _=>rfl) (fun B=>by omega) u)
   |exact k.elim
 |[],_::_,_,_,_,hs=>hs.elim
 |_::_,[],_,_,_,hs=>hs.elim
theorem RL.sim_v [ai_]{cs cs':List AV}{vs φ}(h:RL E w F cs vs φ)(hs:sims .v cs cs')(hφ:∀ b,φ b≠0->¬ F' b)(k:∀ b,b<w.heap.size->¬ F b->¬ F' b):RL E w F' cs' vs (fun _=>0) :=
 (h.seen hφ k).sim_v0 hs
end
section
def AllF (P:AV->Value->Prop):List AV->List Value->Prop
 |[],[]=>True
 |a::l,v::r=>P a v/\AllF P l r
 |_,_=>False
theorem AllF.mono {P Q:AV->Value->Prop}:∀ {l r},AllF P l r->(∀ a v,a ∈ l->P a v->Q a v)->AllF Q l r
 |[],[],_,_=>trivial
 |a::l,v::r,⟨h1,h2⟩,h=>⟨h a v (List.mem_cons_self ..) h1,AllF.mono h2 fun a v ha=>h a v (List.mem_cons_of_mem _ ha)⟩
 |[],_::_,h,_=>h.elim
 |_::_,[],h,_=>h.elim
theorem AllF.length {P:AV->Value->Prop}:∀ {l r},AllF P l r->l.length=r.length
 |[],[],_=>rfl
 |a::l,v::r,⟨_,h2⟩=>by simp [AllF.length h2]
 |[],_::_,h=>h.elim
 |_::_,[],h=>h.elim
structure ao_ where
 sv:Nat->Value
 vals:Nat->List Value
 φ:Nat->Nat->Nat
 g:Nat->Nat
def Fof (x:X)(G:ao_)(b:Nat):Prop:=∃ r blk,x.h r=some blk/\G.φ r b≠0
def AV.refsT:AV->List Nat
 |.tu vs=>vs.flatMap AV.refsD
 |a=>a.refsD
inductive Rows (x:X) (r:Nat):M->(t:TC)->Nat->List (El t)->Prop
 |arr {m t st xs}:x.h r=some (.arr m t st xs)->Rows x r m t st xs
 |hol {m t st i xs}:x.h r=some (.ext (some ⟨m,t,st,i,xs⟩))->Rows x r m t st xs
theorem Rows.known {x:X}{r:Nat}{m0 t0 st0 xs0} (h:x.h r=some (.arr m0 t0 st0 xs0)) {m t st xs}:Rows x r m t st xs->x.h r=some (.arr m t st xs)
 |.arr e=>e
 |.hol e=>by rw [h] at e;cases e
inductive Same:Blk->Blk->Prop
 |box {cs cs'}:cs.length=cs'.length->Same (.box cs) (.box cs')
 |ext (q):Same (.ext q) (.ext q)
 |arr {m m' t st st' xs xs'}:xs.length=xs'.length->st<=st'->(st=st'->xs=xs')->Same (.arr m t st xs) (.arr m' t st' xs')
 |opn {m t st st' i xs xs'} {m'}:xs.length=xs'.length->st<st'->Same (.arr m t st xs) (.ext (some ⟨m',t,st',i,xs'⟩))
 |hol {m t st st' i i' xs xs'} {m'}:xs.length=xs'.length->st<st'->Same (.ext (some ⟨m,t,st,i,xs⟩)) (.ext (some ⟨m',t,st',i',xs'⟩))
 |fill {m t st st' i xs xs'} {m'}:xs.length=xs'.length->st<st'->Same (.ext (some ⟨m,t,st,i,xs⟩)) (.arr m' t st' xs')
variable [aj_]
open aj_
def RF (E:Env)(w:World)(x:X)(G:ao_):AV->Value->Prop
 |.rt r,v=>v.oneCell'=true/\∀ m t st xs,Rows x r m t st xs->v=G.sv r
 |.sr r lo hi,v=>v.oneCell'=true/\∀ m t st xs,Rows x r m t st xs->∃ a n c a' c',G.sv r = .slice a n c/\lo<=hi/\hi<=xs.length/\hi - lo<=c'/\v = .slice a' (hi - lo) c' /\
   (lo<hi->∃ g,a=some ⟨g,0,none⟩/\a'=some ⟨g,lo*t.width,none⟩)
 |.ns r st i off t ys,v=>v.oneCell'=true/\(∀ m t' st' xs,x.h r=some (.arr m t' st' xs)->st<=st'/\(st=st'->i<xs.length/\(enc .d t' (xs.getD i (El.dflt t')))[off]?=some (.sl .d t ys)/\(G.vals r)[i*t'.width+off]?=some v)) /\
   ∀ q,x.h r=some (.ext (some q))->st<q.st
 |.pb r off,v=>v.oneCell'=true/\∀ cs,x.h r=some (.box cs)->v = .pointer (some ⟨G.g r,off,none⟩)
 |.pe r i off,v=>v.oneCell'=true/\∀ m t st xs,Rows x r m t st xs->i<xs.length/\∃ g n c,G.sv r = .slice (some ⟨g,0,none⟩) n c/\v = .pointer (some ⟨g,i*t.width+off,none⟩)
 |a,v=>RL E w (Fof x G) [a] [v] (fun _=>0)
def RF1 (E:Env)(w:World)(x:X)(G:ao_)(a:AV)(v:Value):Prop :=
 RF E w x G a v\/∃ cs us,a = .ag cs/\v = .agg (List.toArray us)/\AllF (RF E w x G) cs us
inductive RT (E:Env) (w:World) (x:X) (G:ao_):AV->Value->Prop
 |flat (a v):RF1 E w x G a v->RT E w x G a v
 |tu (cs vs):AllF (RF1 E w x G) cs vs->RT E w x G (.tu cs) (.tuple (List.toArray vs))
 |clo (f cs vs):AllF (RF E w x G) cs vs->RT E w x G (.clo f cs) (.func (.func f) #[] (List.toArray vs))
def Used (x:X)(l:List Nat):Prop:=∀ r,r ∈ l->x.u r=true
def jz_ (E:Env)(x:X)(w:World)(G:ao_)(r:Nat):Blk->Prop
 |.box cs=>(∃ cur T,w.heap[G.g r]?=some (.cells (List.toArray cur) T (0,0))/\AllF (RF E w x G) cs cur)/\(∀ b,G.φ r b=if G.g r=b then 1 else 0)/\Used x (cs.flatMap AV.refs)
 |.ext none=>True
 |.ext (some ⟨m,t,st,i,xs⟩)=>m = .d/\i<xs.length/\w.ownsRow 0 (E.eid t) t.width (G.sv r) xs.length (G.vals r)/\∃ ψ₁ ψ₂,RL E w (Fof x G) (aT_ .d t (xs.take i)) ((G.vals r).take (i*t.width)) ψ₁ /\
   RL E w (Fof x G) (aT_ .d t (xs.drop (i+1))) ((G.vals r).drop ((i+1)*t.width)) ψ₂/\∀ b,G.φ r b=cG_ (G.sv r) b+(ψ₁ b+ψ₂ b)
 |.arr m t st xs=>m ≠ .v/\w.ownsRow 0 (E.eid t) t.width (G.sv r) xs.length (G.vals r)/\∃ ψ,RL E w (Fof x G) (aT_ m.sub t xs) (G.vals r) ψ/\∀ b,G.φ r b=cG_ (G.sv r) b+ψ b
structure Mem (E:Env) (x:X) (w:World) (G:ao_):Prop where
 root:∀ r blk,x.h r=some blk->jz_ E x w G r blk
 used:∀ r blk,x.h r=some blk->x.u r=true
 one:∀ r blk b,x.h r=some blk->G.φ r b<=1
 low:∀ r blk b,x.h r=some blk->G.φ r b≠0->b<w.heap.size
 sep:∀ r r' blk blk' b,x.h r=some blk->x.h r'=some blk'->G.φ r b≠0->G.φ r' b≠0->r=r'
 glob:Glob E w (Fof x G)
structure Evo (x:X) (w:World) (G:ao_) (x':X) (w':World) (G':ao_):Prop where
 os:w'.os=w.os
 tape:w'.tape=w.tape
 output:w'.output=w.output
 size:w.heap.size<=w'.heap.size
 heap:∀ b,b<w.heap.size->¬ Fof x G b->w'.heap[b]?=w.heap[b]?
 fresh:∀ b,b<w.heap.size->Fof x' G' b->Fof x G b
 used:∀ r,x.u r=true->x'.u r=true
 same:∀ r blk',x.u r=true->x'.h r=some blk'->∃ blk,x.h r=some blk/\Same blk blk'/\G'.sv r=G.sv r/\G'.g r=G.g r /\
  ∀ m t st xs m' t' xs',blk = .arr m t st xs->blk' = .arr m' t' st xs'->G'.vals r=G.vals r
 ext:∀ r b,x.u r=true->x'.h r=some (.ext none)->G'.φ r b=G.φ r b/\(G.φ r b≠0->b<w.heap.size->w'.heap[b]?=w.heap[b]?)
omit [aj_] in
theorem Same.refl:∀ b,Same b b
 |.box _=>.box rfl
 |.ext q=>.ext q
 |.arr .. => .arr rfl (Nat.le_refl _) fun _=>rfl
omit [aj_] in
theorem Same.trans {a b c:Blk}(h:Same a b)(k:Same b c):Same a c:=by
 cases h with
 |box e=>cases k with
  |box e'=>exact .box (e.trans e')
 |ext q=>exact k
 |arr e l f=>cases k with
  |arr e' l' f'=>exact .arr (e.trans e') (Nat.le_trans l l') fun h=>(f (by omega)).trans (f' (by omega))
  |opn e' l'=>exact .opn (e.trans e') (by omega)
 |opn e l=>cases k with
  |ext=>exact .opn e l
  |hol e' l'=>exact .opn (e.trans e') (by omega)
  |fill e' l'=>exact .arr (e.trans e') (by omega) fun h=>by omega
 |hol e l=>cases k with
  |ext=>exact .hol e l
  |hol e' l'=>exact .hol (e.trans e') (by omega)
  |fill e' l'=>exact .fill (e.trans e') (by omega)
 |fill e l=>cases k with
  |arr e' l' f'=>exact .fill (e.trans e') (by omega)
  |opn e' l'=>exact .hol (e.trans e') (by omega)
omit [aj_] in
theorem Same.rows {x:X}{r:Nat}{b b':Blk}(h:Same b b')(hb:x.h r=some b){m' t st' xs'} (k:b' = .arr m' t st' xs'\/∃ i,b' = .ext (some ⟨m',t,st',i,xs'⟩)):∃ m st xs,Rows x r m t st xs/\xs.length=xs'.length:=by
 cases h with
 |box=>rcases k with e|⟨_,e⟩<;>cases e
 |ext q=>
  rcases k with e|⟨i,e⟩
  . cases e
  . cases e;exact ⟨_,_,_,.hol hb,rfl⟩
 |arr e l f=>
  rcases k with e' | ⟨_,e'⟩
  . cases e';exact ⟨_,_,_,.arr hb,e⟩
  . cases e'
 |opn e l=>
  rcases k with e' | ⟨_,e'⟩
  . cases e'
  . cases e';exact ⟨_,_,_,.arr hb,e⟩
 |hol e l=>
  rcases k with e' | ⟨_,e'⟩
  . cases e'
  . cases e';exact ⟨_,_,_,.hol hb,e⟩
 |fill e l=>
  rcases k with e' | ⟨_,e'⟩
  . cases e';exact ⟨_,_,_,.hol hb,e⟩
  . cases e'
omit [aj_] in
theorem Evo.refl (x:X)(w:World)(G:ao_):Evo x w G x w G :=
 ⟨rfl,rfl,rfl,Nat.le_refl _,fun _ _ _=>rfl,fun _ _ h=>h,fun _ h=>h,fun r blk' _ h=>⟨blk',h,Same.refl _,rfl,rfl,fun _ _ _ _ _ _ _ _ _=>rfl⟩,fun _ _ _ _=>⟨rfl,fun _ _=>rfl⟩⟩
omit [aj_] in
theorem Evo.trans {x w G x1 w1 G1 x2 w2 G2}(h:Evo x w G x1 w1 G1)(k:Evo x1 w1 G1 x2 w2 G2):Evo x w G x2 w2 G2:=by
 refine ⟨k.os.trans h.os,k.tape.trans h.tape,k.output.trans h.output,Nat.le_trans h.size k.size,fun b hb z => ?_,fun b hb z => ?_,fun r hr=>k.used r (h.used r hr),fun r blk' p hr => ?_,fun r b p hr => ?_⟩
 . rw [k.heap b (Nat.lt_of_lt_of_le hb h.size) (fun J=>z (h.fresh b hb J)),h.heap b hb z]
 . exact h.fresh b hb (k.fresh b (Nat.lt_of_lt_of_le hb h.size) z)
 . obtain ⟨b1,O,s1,e1,e2,e3⟩:=k.same r blk' (h.used r p) hr
   obtain ⟨b0,S,s0,f1,f2,f3⟩:=h.same r b1 p O;refine ⟨b0,S,s0.trans s1,e1.trans f1,e2.trans f2,fun m t st xs m' t' xs' hb I => ?_⟩;subst hb I;cases s0 with
   | @arr _ m1 _ _ st1 _ xs1 q1 l1 i1=>cases s1 with
     |arr q2 l2 i2=>
      obtain rfl:st1=st:=by omega
      rw [e3 _ _ _ _ _ _ _ rfl rfl,f3 _ _ _ _ _ _ _ rfl rfl]
   |opn q1 l1=>cases s1 with
    |fill q2 l2=>exfalso;omega
 . obtain ⟨b1,O,s1,_⟩:=k.same r _ (h.used r p) hr
   have B:b1 = .ext none:=by cases s1;rfl
   subst B;obtain ⟨e1,e2⟩:=k.ext r b (h.used r p) hr;obtain ⟨f1,f2⟩:=h.ext r b p O;refine ⟨e1.trans f1,fun hb u => ?_⟩;rw [e2 (by rw [f1];exact hb) (Nat.lt_of_lt_of_le u h.size),f2 hb u]
section
variable {E:Env} {x x':X} {w w':World} {G G':ao_}
theorem RL.evolve (ev:Evo x w G x' w' G'){l vs φ} (h:RL E w (Fof x G) l vs φ) (hφ:∀ b,φ b≠0->w'.heap[b]?=w.heap[b]?/\Fof x' G' b):RL E w' (Fof x' G') l vs φ :=
 h.frame ev.size hφ fun b hb m=>⟨ev.heap b hb m,fun k=>m (ev.fresh b hb k)⟩
omit [aj_] in
theorem Evo.rows (ev:Evo x w G x' w' G'){r:Nat}(B:x.u r=true){m t st xs}(hr:Rows x' r m t st xs):∃ m0 st0 xs0,Rows x r m0 t st0 xs0/\xs0.length=xs.length/\G'.sv r=G.sv r:=by
 cases hr with
 |arr hr=>
  obtain ⟨blk,z,s,e1,_⟩:=ev.same r _ B hr;obtain ⟨a,b,c,p,k⟩:=s.rows z (.inl rfl);exact ⟨a,b,c,p,k,e1⟩
 |hol hr=>
  obtain ⟨blk,z,s,e1,_⟩:=ev.same r _ B hr;obtain ⟨a,b,c,p,k⟩:=s.rows z (.inr ⟨_,rfl⟩);exact ⟨a,b,c,p,k,e1⟩
theorem RF.evolve (ev:Evo x w G x' w' G'){a v}(h:RF E w x G a v)(z:Used x a.refs):RF E w' x' G' a v:=by
 have u:∀ r blk',r ∈ a.refs->x'.h r=some blk'->_:=fun r blk' hr=>ev.same r blk' (z r hr);cases a<;>simp only [RF] at h ⊢ <;> try exact h.evolve ev fun b hb=>absurd rfl hb
 case rt r=>
  obtain ⟨k,h⟩:=h;refine ⟨k,?_⟩;intro m t st xs hr;obtain ⟨_,_,_,p,_,e1⟩:=ev.rows (z r (by simp [AV.refs])) hr;rw [h _ _ _ _ p,e1]
 case sr r lo hi=>
  obtain ⟨k,h⟩:=h;refine ⟨k,?_⟩;intro m t st xs hr;obtain ⟨_,_,_,p,s2,e1⟩:=ev.rows (z r (by simp [AV.refs])) hr;rw [e1,<-s2];exact h _ _ _ _ p
 case ns r st i off t ys=>
  obtain ⟨k,h,B⟩:=h;refine ⟨k,?_,?_⟩
  . intro m t' st' xs hr
    obtain ⟨blk,p,s,e1,e2,e3⟩:=u r _ (by simp [AV.refs]) hr;cases s with
    |fill s2 s3=>
     have:=B _ p;exact ⟨by simp only at this;omega,fun e=>by simp only at this;omega⟩
    | @arr m0 _ _ st0 _ xs0 _ s2 s3 s4=>
      obtain ⟨J,I⟩:=h _ _ _ _ p;refine ⟨Nat.le_trans J s3,fun e => ?_⟩;have e0:st=st0:=by omega
      have e4:st0=st':=by omega
      obtain rfl:=s4 e4;obtain ⟨k1,k2,k3⟩:=I e0;subst e4;exact ⟨k1,k2,by rw [e3 _ _ _ _ _ _ _ rfl rfl];exact k3⟩
  . intro q hr
    obtain ⟨blk,p,s,e1,e2,e3⟩:=u r _ (by simp [AV.refs]) hr;cases s with
    |ext=>exact B _ p
    |opn s2 s3=>have:=(h _ _ _ _ p).1;simp only;omega
    |hol s2 s3=>have:=B _ p;simp only at this ⊢;omega
 case pb r off=>
  obtain ⟨k,h⟩:=h;refine ⟨k,?_⟩;intro cs hr;obtain ⟨blk,p,s,e1,e2,e3⟩:=u r _ (by simp [AV.refs]) hr;cases s with
  |box=>rw [h _ p,e2]
 case pe r i off=>
  obtain ⟨k,h⟩:=h;refine ⟨k,?_⟩;intro m t st xs hr;obtain ⟨_,_,_,p,s2,e1⟩:=ev.rows (z r (by simp [AV.refs])) hr;rw [e1,<-s2];exact h _ _ _ _ p
omit [aj_] in
theorem Used.evolve (ev:Evo x w G x' w' G'){l}(h:Used x l):Used x' l:=fun r hr=>ev.used r (h r hr)
omit [aj_] in
theorem Used.mem {l:List AV} (h:Used x (l.flatMap AV.refs)) {a} (ha:a ∈ l):Used x a.refs:=fun r hr=>h r (List.mem_flatMap.2 ⟨a,ha,hr⟩)
theorem AllF.evolve (ev:Evo x w G x' w' G'){l vs} (h:AllF (RF E w x G) l vs) (m:Used x (l.flatMap AV.refs)):AllF (RF E w' x' G') l vs :=
 h.mono fun a v ha k=>k.evolve ev (m.mem ha)
omit [aj_] in
theorem AV.refs_sub_D (a:AV):∀ r,r ∈ a.refs->r ∈ a.refsD:=by intro r hr;cases a<;>first|exact hr|simp [AV.refs] at hr
theorem RF1.evolve (ev:Evo x w G x' w' G'){a v}(h:RF1 E w x G a v)(k:Used x a.refsD):RF1 E w' x' G' a v:=by
 rcases h with h|⟨cs,us,rfl,rfl,h⟩
 . exact .inl (h.evolve ev fun r hr=>k r (a.refs_sub_D r hr))
 . exact .inr ⟨cs,us,rfl,rfl,h.evolve ev k⟩
theorem RT.evolve (ev:Evo x w G x' w' G'){a v}(h:RT E w x G a v)(k:Used x a.refsT):RT E w' x' G' a v:=by
 cases h with
 |flat _ _ h=>
  refine .flat _ _ ?_;cases a with
  |tu vs=>
   rcases h with h|⟨cs,us,e,_⟩
   . exact .inl (h.evolve ev (by intro r hr;simp [AV.refs] at hr))
   . cases e
  |_=>exact h.evolve ev k
 |tu cs vs h=>exact .tu _ _ (h.mono fun a v ha h'=>h'.evolve ev fun r hr=>k r (List.mem_flatMap.2 ⟨a,ha,hr⟩))
 |clo f cs vs h=>exact .clo _ _ _ (h.evolve ev k)
theorem jz_.evolve (ev:Evo x w G x' w' G'){r blk}(h:jz_ E x w G r blk)(h':x'.h r=some blk)(p:G'.sv r=G.sv r)(k:G'.vals r=G.vals r)(S:G'.g r=G.g r)(hφ:∀ b,G'.φ r b=G.φ r b)
  (z:∀ b,G.φ r b≠0->w'.heap[b]?=w.heap[b]?):jz_ E x' w' G' r blk:=by
 cases blk with
 |ext q=>cases q with
  |none=>trivial
  |some q=>
   obtain ⟨m,t,st,i,xs⟩:=q;obtain ⟨U,O,J,ψ₁,ψ₂,I,u,B⟩:=h;refine ⟨U,O,?_,ψ₁,ψ₂,?_,?_,fun b=>by rw [hφ,p,B]⟩
   . rw [p,k]
     exact hU_ J fun b hb=>z b (by rw [B];omega)
   . rw [k]
     exact I.evolve ev fun b hb=>⟨z b (by rw [B];omega),r,_,h',by rw [hφ,B];omega⟩
   . rw [k]
     exact u.evolve ev fun b hb=>⟨z b (by rw [B];omega),r,_,h',by rw [hφ,B];omega⟩
 |box cs=>
  obtain ⟨⟨cur,T,O,J⟩,I,u⟩:=h;refine ⟨⟨cur,T,?_,J.evolve ev u⟩,fun b=>by rw [hφ,S,I],u.evolve ev⟩;rw [S,z (G.g r) (by rw [I,if_pos rfl];omega),O]
 |arr m t st xs=>
  obtain ⟨O,J,ψ,I,u⟩:=h;refine ⟨O,?_,ψ,?_,fun b=>by rw [hφ,p,u]⟩
  . rw [p,k]
    exact hU_ J fun b hb=>z b (by rw [u];omega)
  . rw [k]
    exact I.evolve ev fun b hb=>⟨z b (by rw [u];omega),r,_,h',by rw [hφ,u];omega⟩
omit [aj_] in
theorem Glob.lt {F:Nat->Prop}(h:Glob E w F){p}(k:p ∈ E.globs):p.1<w.heap.size:=by obtain ⟨⟨cs,T,fr,m,_⟩,_⟩:=h p k;exact (Array.getElem?_eq_some_iff.1 m).1
omit [aj_] in
theorem Glob.sub {F F':Nat->Prop}(h:Glob E w F)(hs:∀ b,F' b->F b):Glob E w F':=fun p k=>⟨(h p k).1,fun hb=>(h p k).2 (hs _ hb)⟩
omit [aj_] in
theorem Glob.evolve (h:Glob E w (Fof x G)) (ev:Evo x w G x' w' G'):Glob E w' (Fof x' G'):=fun p m=>by have k:=h.lt m;obtain ⟨⟨cs,T,fr,B,hc⟩,u⟩:=h p m;exact ⟨⟨cs,T,fr,by rw [ev.heap p.1 k u];exact B,hc⟩,fun z=>u (ev.fresh p.1 k z)⟩
theorem Mem.build (h:Mem E x w G)(ev:Evo x w G x' w' G')(C:Nat->Prop)(p:∀ b,b<w.heap.size->¬ C b->w'.heap[b]?=w.heap[b]?)
  (roots:∀ r blk,x'.h r=some blk->(x.h r=some blk/\G'.sv r=G.sv r/\G'.vals r=G.vals r/\G'.g r=G.g r/\(∀ b,G'.φ r b=G.φ r b)/\∀ b,G.φ r b≠0->¬ C b) \/
    (jz_ E x' w' G' r blk/\x'.u r=true/\∀ b,G'.φ r b<=1/\(G'.φ r b≠0->b<w'.heap.size)))
  (sep:∀ r r' blk blk' b,x'.h r=some blk->x'.h r'=some blk'->G'.φ r b≠0->G'.φ r' b≠0->r=r'):Mem E x' w' G':=by
 refine ⟨fun r blk hr => ?_,fun r blk hr => ?_,fun r blk b hr => ?_,fun r blk b hr hb => ?_,sep,h.glob.evolve ev⟩
 . rcases roots r blk hr with ⟨k,e1,e2,e3,e4,e5⟩|⟨B,_⟩
   . exact (h.root r blk k).evolve ev hr e1 e2 e3 e4 fun b hb=>p b (h.low r blk b k hb) (e5 b hb)
   . exact B
 . rcases roots r blk hr with ⟨k,_⟩|⟨_,z,_⟩
   . exact ev.used r (h.used r blk k)
   . exact z
 . rcases roots r blk hr with ⟨k,e1,e2,e3,e4,e5⟩|⟨_,_,m⟩
   . rw [e4];exact h.one r blk b k
   . exact (m b).1
 . rcases roots r blk hr with ⟨k,e1,e2,e3,e4,e5⟩|⟨_,_,m⟩
   . rw [e4] at hb;exact Nat.lt_of_lt_of_le (h.low r blk b k hb) ev.size
   . exact (m b).2 hb
end
end
section
variable [aj_]
open aj_
variable {E:Env} {x:X} {w:World} {G:ao_}
theorem RT.i {k n v} (h:RT E w x G (.i k n) v):v = .int k n:=by
 cases h with
 |flat _ _ h=>
  rcases h with h|⟨_,_,e,_⟩
  . cases h with
    |scal _ _ _ _ _ hs _=>exact hs
  . cases e
theorem RT.b {q v} (h:RT E w x G (.b q) v):v = .bool q:=by
 cases h with
 |flat _ _ h=>
  rcases h with h|⟨_,_,e,_⟩
  . cases h with
    |scal _ _ _ _ _ hs _=>exact hs
  . cases e
theorem RT.s {l v} (h:RT E w x G (.s l) v):v = .string ⟨l.toArray⟩:=by
 cases h with
 |flat _ _ h=>
  rcases h with h|⟨_,_,e,_⟩
  . cases h with
    |scal _ _ _ _ _ hs _=>exact hs
  . cases e
theorem RT.nils {v}(h:RT E w x G .nils v):v = .slice none 0 0:=by
 cases h with
 |flat _ _ h=>
  rcases h with h|⟨_,_,e,_⟩
  . cases h with
    |scal _ _ _ _ _ hs _=>exact hs
  . cases e
theorem RT.er {q v} (h:RT E w x G (.er q) v):(q=true->v = .nilIface)/\(q=false->∃ t u,v = .iface t u):=by
 cases h with
 |flat _ _ h=>
  rcases h with h|⟨_,_,e,_⟩
  . cases h with
    |scal _ _ _ _ _ hs _=>exact hs
  . cases e
theorem RT.nili {v}(h:RT E w x G .nili v):v = .nilIface:=by
 cases h with
 |flat _ _ h=>
  rcases h with h|⟨_,_,e,_⟩
  . cases h with
    |scal _ _ _ _ _ hs _=>exact hs
  . cases e
theorem RT.scl {a v}(h:scl a v):RT E w x G a v:=by refine .flat _ _ (.inl ?_);have:RL E w (Fof x G) [a] [v] (fun _=>0):=.scal _ _ _ _ _ h (.nil _ fun _=>rfl);cases a<;>first|exact this|exact h.elim
theorem RT.rf {a v}(h:RT E w x G a v)(p:∀ cs,a ≠ .ag cs)(m:∀ cs,a ≠ .tu cs)(k:∀ f cs,a ≠ .clo f cs):RF E w x G a v:=by
 cases h with
 |flat _ _ h=>
  rcases h with h|⟨cs,_,e,_⟩
  . exact h
  . exact absurd e (p cs)
 |tu cs=>exact absurd rfl (m cs)
 |clo f cs=>exact absurd rfl (k f cs)
theorem RL.rf {a v φ} (h:RL E w (Fof x G) [a] [v] φ) (k:∀ b,φ b=0):RF E w x G a v:=by have h':=h.congr (ψ:=fun _=>0) k;cases a<;>first|exact h' | (cases h' with|scal _ _ _ _ _ hs _=>exact hs.elim)
theorem RL.allRF:∀ {l vs φ},RL E w (Fof x G) l vs φ->(∀ b,φ b=0)->AllF (RF E w x G) l vs
 |[],vs,φ,h,_=>by obtain ⟨rfl,_⟩:=RL.nil_inv h;trivial
 |a::l,vs,φ,h,k=>by obtain ⟨v,vs',φ₁,φ₂,rfl,p,m,e⟩:=RL.uncons h;exact ⟨p.rf fun b=>by have:=e b;rw [k b] at this;omega,RL.allRF m fun b=>by have:=e b;rw [k b] at this;omega⟩
theorem RT.ag {cs v} (h:RT E w x G (.ag cs) v):∃ us,v = .agg (List.toArray us)/\AllF (RF E w x G) cs us:=by
 cases h with
 |flat _ _ h=>
  rcases h with h|⟨cs',us,e,rfl,h⟩
  . cases h with
    |scal _ _ _ _ _ hs _=>exact hs.elim
    |ag cs us φ₁ _ _ φ₂ _ h1 h2 he=>exact ⟨us,rfl,h1.allRF fun b=>by have k:0=φ₁ b+φ₂ b:=he b;omega⟩
  . cases e;exact ⟨us,rfl,h⟩
theorem RT.tu' {cs v} (h:RT E w x G (.tu cs) v):∃ us,v = .tuple (List.toArray us)/\AllF (RF1 E w x G) cs us:=by
 cases h with
 |flat _ _ h=>
  rcases h with h|⟨cs',us,e,rfl,h⟩
  . cases h with
    |scal _ _ _ _ _ hs _=>exact hs.elim
    |tu cs us φ₁ _ _ φ₂ _ h1 h2 he=>exact ⟨us,rfl,(h1.allRF fun b=>by have k:0=φ₁ b+φ₂ b:=he b;omega).mono fun a v _ h=>.inl h⟩
  . cases e
 |tu _ us h=>exact ⟨us,rfl,h⟩
theorem RT.clo' {f cs v} (h:RT E w x G (.clo f cs) v):∃ us,v = .func (.func f) #[] (List.toArray us)/\AllF (RF E w x G) cs us:=by
 cases h with
 |flat _ _ h=>
  rcases h with h|⟨cs',us,e,rfl,h⟩
  . cases h with
    |scal _ _ _ _ _ hs _=>cases cs with
     |nil=>exact ⟨[],hs,trivial⟩
     |cons=>exact hs.elim
    |clo _ _ us z _ _ _ h1 hz _=>exact ⟨us,rfl,h1.allRF hz⟩
  . cases e
 |clo _ _ us h=>exact ⟨us,rfl,h⟩
theorem RF.oneCell {a v}(h:RF E w x G a v)(k:a.one=true):v.oneCell'=true:=by
 cases a with
 |rt=>exact h.1
 |sr=>exact h.1
 |ns=>exact h.1
 |pb=>exact h.1
 |pe=>exact h.1
 |ag=>simp [AV.one] at k
 |tu=>simp [AV.one] at k
 |bx=>simp [AV.one] at k
 |clo=>simp [AV.one] at k
 |u=>simp [AV.one] at k
 |sl m t xs=>
  cases h with
  |scal _ _ _ _ _ hs _=>exact hs.elim
  |view=>rfl
  |own m t xs v vals φ₁ _ _ φ₂ _ hm p=>rcases p.2 with ⟨rfl,_⟩|⟨_,_,_,rfl,_⟩<;>rfl
 |pc=>
  cases h with
  |scal _ _ _ _ _ hs _=>exact hs.elim
  |pc=>rfl
 |er q=>
  cases h with
  |scal _ _ _ _ _ hs _=>
   cases q with
   |true=>rw [hs.1 rfl];rfl
   |false=>obtain ⟨_,_,rfl⟩:=hs.2 rfl;rfl
 |_=>
  cases h with
  |scal _ _ _ _ _ hs _=>subst hs;rfl
theorem AllF.one:∀ {l us},AllF (RF E w x G) l us->l.all AV.one=true->∀ v ∈ us,v.oneCell'=true
 |[],[],_,_,v,k=>by cases k
 |a::l,u::us,⟨h1,h2⟩,ho,v,k=>by
  simp only [List.all_cons,Bool.and_eq_true] at ho;rcases List.mem_cons.1 k with rfl|k
  . exact h1.oneCell ho.1
  . exact AllF.one h2 ho.2 v k
 |[],_::_,h,_,_,_=>h.elim
 |_::_,[],h,_,_,_=>h.elim
theorem RT.cells {a v}(h:RT E w x G a v)(u:a.cells.all AV.one=true):∃ us,v.cells=List.toArray us/\AllF (RF E w x G) a.cells us:=by
 by_cases m:∃ cs,a = .ag cs
 . obtain ⟨cs,rfl⟩:=m
   obtain ⟨us,rfl,h'⟩:=RT.ag h;exact ⟨us,rfl,h'⟩
 . have hc:a.cells=[a]:=by cases a<;>first|rfl|exact absurd ⟨_,rfl⟩ m
   rw [hc] at u ⊢;have k:a.one=true:=by simpa using u
   have p:=h.rf (fun cs e=>m ⟨cs,e⟩) (fun cs e=>by subst e;simp [AV.one] at k) (fun f cs e=>by subst e;simp [AV.one] at k);refine ⟨[v],?_,p,trivial⟩;have:=p.oneCell k;cases v<;>first|rfl|simp [Value.oneCell'] at this
end
section
variable [aj_]
open aj_
variable {ω:Type}
def Goes (E:Env)(κ:X->AV->Option ω)(r:ω)(x:X)(w:World)(G:ao_)(V:Value)(w':World):Prop :=
 ∃ x' G' v,κ x' v=some r/\Evo x w G x' w' G'/\Mem E x' w' G'/\RT E w' x' G' v V/\Used x' v.refsT
def bO_ (E:Env)(o:Oper)(α:Operand->Value)(κ:X->AV->Option ω)(r:ω)(x:X)(w:World)(G:ao_):Prop :=
 match (execOp α o).run E.P w with
 |.ok (.value V) w'=>Goes E κ r x w G V w'
 |.ok .skip w'=>Goes E κ r x w G undef w'
 |.ok (.enter f args) w'=>Calls E.P f args w' fun e w''=>∃ V,e = .returned V/\Goes E κ r x w G V w''
 |_=>False
structure TDok (E:Env) (T:TypeId) (td:TD):Prop where
 size:(E.P.info? T).map (·.size)=some td.size
 pos:0<td.size
 agg:td.agg=true->∃ d,E.P.underlying T=some d/\d.isRow=true
 flat:td.agg=false->td.size=1/\∃ d,E.P.underlying T=some d/\d.isRow=false
 zero:td.zero.length=td.size/\td.zero.all AV.one=true/\∃ i z zs,E.P.info? T=some i/\i.zero=some z/\z.cells=List.toArray zs/\AllF scl td.zero zs
 fields:td.fields≠[]->∃ fs,E.P.underlying T=some (.struct fs)/\fs.size=td.fields.length/\∀ (f off n:Nat),td.fields[f]?=some (off,n)->∃ fd:Field,fs[f]?=some fd/\fd.offset=off/\(E.P.info? fd.type).map (·.size)=some n/\0<n
 struct:td.agg=true->td.fields≠[]
 elem:∀ t,td.elem=some t->E.P.underlying T=some (.slice (E.eid t))
 kind:∀ k,td.kind=some k->E.P.underlying T=some (.int k)
 str:td.isStr=true->E.P.underlying T=some .string
 bool:td.isBool=true->E.P.underlying T=some .bool
 cmp:td.cmp≠[]->∃ fs,E.P.underlying T=some (.struct fs)/\E.P.stoodInHeld T=false/\E.P.eqGuardType E.P.depth T=false/\fs.size=td.cmp.length /\
  ∀ (k:Nat)(f:Field)(q:CK),fs[k]?=some f->td.cmp[k]?=some q->(f.name == "_")=false/\f.offset=k/\E.P.plainKey f.type=true /\
    match q with
    |.i=>∃ kk,E.P.underlying f.type=some (.int kk)
    |.b=>E.P.underlying f.type=some .bool
    |.s=>E.P.underlying f.type=some .string
 iface:td.isIf=true->∃ ms,E.P.underlying T=some (.interface ms)
structure TCok (E:Env) (t:TC):Prop where
 info:∃ i z zs zc,E.P.info? (E.eid t)=some i/\i.zero=some z/\i.size=t.width/\i.bytes=t.bytes/\z.cells=List.toArray zs/\AllF scl zc zs/\zc.all AV.one=true/\(∀ m,sims m zc (enc m t (El.dflt t)))
 pos:0<t.bytes
variable {E:Env} {x:X} {w:World} {G:ao_} {κ:X->AV->Option ω} {r:ω} {o:Oper} {α:Operand->Value}
theorem Goes.same (hM:Mem E x w G){v V}(m:κ x v=some r)(hr:RT E w x G v V)(k:Used x v.refsT):Goes E κ r x w G V w :=
 ⟨x,G,v,m,Evo.refl _ _ _,hM,hr,k⟩
theorem bO_.value {V w'} (h:(execOp α o).run E.P w = .ok (.value V) w') (k:Goes E κ r x w G V w'):bO_ E o α κ r x w G:=by unfold bO_;rw [h];exact k
omit [aj_] in
theorem cx_:Used x []:=fun r hr=>by cases hr
section
variable (hM:Mem E x w G)
include hM
theorem go_move {a}(m:o.op = .move a){v}(p:κ x v=some r) (hr:RT E w x G v (α a)) (k:Used x v.refsT):bO_ E o α κ r x w G :=
 bO_.value (by simp [execOp,m]) (Goes.same hM p hr k)
theorem go_assign {a}(m:o.op = .assign a){v}(p:κ x v=some r) (hr:RT E w x G v (α a)) (k:Used x v.refsT):bO_ E o α κ r x w G :=
 bO_.value (by simp [execOp,m]) (Goes.same hM p hr k)
theorem go_pick {q a b t}(m:o.op = .pick q a b)(hq:α q = .bool t){v}(p:κ x v=some r) (hr:RT E w x G v (if t then α a else α b)) (k:Used x v.refsT):bO_ E o α κ r x w G :=
 bO_.value (by simp [execOp,m,hq,asBool]) (Goes.same hM p hr k)
theorem go_not {T a t}(k:o.op = .unOp .not T a)(ha:α a = .bool t) (m:κ x (.b (!t))=some r):bO_ E o α κ r x w G :=
 bO_.value (V:=.bool (!t)) (by simp [execOp,k,ha,Op.unary]) (Goes.same hM m (RT.scl rfl) cx_)
theorem go_neg {T a k n}(m:o.op = .unOp .neg T a)(ha:α a = .int k n) (p:κ x (.i k (k.wrap (0 - n)))=some r):bO_ E o α κ r x w G :=
 bO_.value (V:=.int k (k.wrap (0 - n))) (by simp [execOp,m,ha,Op.unary,Op.intArith]) (Goes.same hM p (RT.scl rfl) cx_)
end
section
variable (hM:Mem E x w G)
include hM
theorem ua_ {op T T' a b k n k' m}(u:o.op = .binOp op T a b T')(ha:α a = .int k n)(hb:α b = .int k' m){isB} (h:hb_ op isB (.i k n) (.i k' m) (κ x)=some r):bO_ E o α κ r x w G:=by
 have B:∀ t y z,(eqGuard op t y z (.int k n) (.int k' m)).run E.P w = .ok () w:=fun t y z=>by cases op<;>simp [eqGuard]
 cases op<;>simp only [hb_] at h<;>(try (simp at h;done))
 case shr=>
  by_cases p:m<0
  . simp [p] at h
  . simp only [p,decide_false,cond_false] at h
    refine bO_.value (V:=.int k (n.fdiv (2 ^ min m.toNat k.bits))) (w':=w) ?_ (Goes.same hM h (RT.scl rfl) cx_);simp [execOp,u,ha,hb,B,binOp,Op.shift,p]
 all_goals
  obtain rfl:k=k':=by
   by_cases q:k=k'
   . exact q
   . simp [q] at h
  simp only [decide_true,cond_true] at h
 case quo=>
  by_cases p:m=0
  . simp [p] at h
  . simp only [p,decide_false,cond_false] at h
    exact bO_.value (V:=.int k (k.wrap (n.tdiv m))) (by simp [execOp,u,ha,hb,B,binOp,Op.intDiv,p]) (Goes.same hM h (RT.scl rfl) cx_)
 case rem=>
  by_cases p:m=0
  . simp [p] at h
  . simp only [p,decide_false,cond_false] at h
    exact bO_.value (V:=.int k (n.tmod m)) (by simp [execOp,u,ha,hb,B,binOp,Op.intDiv,p]) (Goes.same hM h (RT.scl rfl) cx_)
 all_goals
  refine bO_.value (w':=w) (by simp [execOp,u,ha,hb,B,binOp,Op.intArith,Op.intBits,Op.intCmp];rfl) (Goes.same hM h (RT.scl ?_) cx_);simp [scl]
end
end
section
variable [aj_]
open aj_
variable {ω:Type}
variable {E:Env} {x:X} {w:World} {G:ao_} {κ:X->AV->Option ω} {r:ω} {o:Oper} {α:Operand->Value}
def nG_ (l:Bs):ByteArray:=⟨l.toArray⟩
omit [aj_] in
theorem r4_ (l:Bs):(nG_ l).toList=l:=by rw [ByteArray.toList_eq];rfl
omit [aj_] in
theorem pS_ (l:Bs):(nG_ l).size=l.length:=by simp [nG_,ByteArray.size]
omit [aj_] in
theorem bs_append (a b:Bs):nG_ a++nG_ b=nG_ (a++b):=by apply ByteArray.ext;simp [nG_,ByteArray.data_append]
omit [aj_] in
theorem nP_ {P:Program}{T:TypeId}(k:P.underlying T=some .bool)(p q:Bool)(w:World)(d:Nat):(Op.equalIn (d+1) T (.bool p) (.bool q)).run P w = .ok (p==q) w:=by simp [Op.equalIn,run_underlying k]
section
variable (hM:Mem E x w G)
include hM
theorem t9_ {op T T' a b l m}(u:o.op = .binOp op T a b T') (ha:α a = .string (nG_ l)) (hb:α b = .string (nG_ m)) {isB} (h:hb_ op isB (.s l) (.s m) (κ x)=some r):bO_ E o α κ r x w G:=by
 have B:∀ t y z,(eqGuard op t y z (.string (nG_ l)) (.string (nG_ m))).run E.P w = .ok () w:=fun t y z=>by cases op<;>simp [eqGuard]
 have hr:∀ V,(Op.stringOp op (nG_ l) (nG_ m)).run E.P w = .ok V w->(execOp α o).run E.P w = .ok (.value V) w:=fun V p=>by simp only [execOp,u,ha,hb,Sem.run_bind,B,Result.andThen_ok];cases op<;>simp only [binOp,p,Result.andThen_ok,Sem.run_pure]<;>simp [Op.stringOp] at p
 cases op<;>simp only [hb_] at h<;>(try (simp at h;done))
 case add=>
  by_cases k:l.length+m.length<=9223372036854775807
  . simp only [k,decide_true,cond_true] at h
    refine bO_.value (hr (.string (nG_ (l++m))) ?_) (Goes.same hM h (RT.scl rfl) cx_);have:¬ (((nG_ l).size+(nG_ m).size:Nat):Int) > IntKind.i64.max:=by rw [pS_,pS_];simp [IntKind.max,IntKind.signed,IntKind.bits];omega
    simp only [Op.stringOp,this,if_false,bs_append];rfl
  . simp [k] at h
 all_goals
  refine bO_.value (hr _ (by simp only [Op.stringOp,r4_];rfl)) (Goes.same hM h (RT.scl rfl) cx_)
theorem rP_ {op T T' a b p q}(k:o.op = .binOp op T a b T')(ha:α a = .bool p)(hb:α b = .bool q){isB}(u:isB=true->E.P.underlying T=some .bool) (h:hb_ op isB (.b p) (.b q) (κ x)=some r):bO_ E o α κ r x w G:=by
 have m:∀ t y z,(eqGuard op t y z (.bool p) (.bool q)).run E.P w = .ok () w:=fun t y z=>by cases op<;>simp [eqGuard]
 cases op<;>simp only [hb_] at h<;>(try (simp at h;done));all_goals
  cases isB with
  |false=>simp at h
  |true=>
   simp only [cond_true] at h;have he:(Op.equal T (.bool p) (.bool q)).run E.P w = .ok (p==q) w:=nP_ (u rfl) p q w 9999;refine bO_.value (w':=w) (by simp only [execOp,k,ha,hb,m,binOp,Sem.run_bind,he,Result.andThen_ok,Sem.run_pure];rfl) (Goes.same hM h (RT.scl ?_) cx_);simp [scl]
theorem rO_ {T T' a k n}(p:o.op = .convert T T' a) (B:E.P.underlying T'=some (.int k)) {k'} (ha:α a = .int k' n) {u} (m:E.P.underlying T=some u) (z:κ x (.i k (k.wrap n))=some r):bO_ E o α κ r x w G:=by refine bO_.value (V:=.int k (k.wrap n)) (w':=w) ?_ (Goes.same hM z (RT.scl rfl) cx_);simp [execOp,p,convert,run_underlying B,run_underlying m,ha,Conv.intToInt]
theorem go_index {T a ix l k n}(z:o.op = .index T a ix)(B:E.P.underlying T=some .string) (ha:α a = .string (nG_ l)) (hi:α ix = .int k n)
  (h:inB n l.length (κ x (.i .u8 ((l.getD n.toNat 0).toNat:Int)))=some r):bO_ E o α κ r x w G:=by
 unfold inB at h;by_cases m:0<=n
 . by_cases p:n<(l.length:Int)
   . simp only [m,p,decide_true,cond_true] at h
     have u:n.toNat<l.length:=by omega
     refine bO_.value (V:=.int .u8 ((l.getD n.toNat 0).toNat:Int)) (w':=w) ?_ (Goes.same hM h (RT.scl rfl) cx_);have I:0<=n/\n<((nG_ l).size:Int):=by rw [pS_];exact ⟨m,p⟩
     simp only [execOp,z,ha,hi,run_index_string (P:=E.P) w T _ k n B,Sem.run_bind,I,and_self,dite_true,Result.andThen_ok,Sem.run_pure];have:(nG_ l)[n.toNat]'(by rw [pS_];exact u)=l.getD n.toNat 0:=by simp [nG_,ByteArray.getElem_eq_getElem_data,List.getD_eq_getElem?_getD,List.getElem?_eq_getElem u]
     simp [this]
   . simp [m,p] at h
 . simp [m] at h
theorem t8_ {T}{k:Nat}{vs v}(U:o.op = .extract T k) (S:RT E w x G (.tu vs) (α T)) (O:Used x (AV.tu vs).refsT) (J:vs[k]?=some v) (hn:v.isTu=false) (m:κ x v=some r):bO_ E o α κ r x w G:=by
 obtain ⟨us,e,p⟩:=S.tu';have z:∀ {l:List AV}{us:List Value}{k:Nat}{v:AV},AllF (RF1 E w x G) l us->l[k]?=some v->∃ u,us[k]?=some u/\RF1 E w x G v u:=by
  intro l;induction l with
  |nil=>intro us k v _ h;simp at h
  |cons a l ih=>
   intro us k v h m;cases us with
   |nil=>exact h.elim
   |cons u us=>
    cases k with
    |zero=>simp at m;subst m;exact ⟨u,rfl,h.1⟩
    |succ k=>simpa using ih h.2 (show l[k]?=some v by simpa using m)
 obtain ⟨u,I,B⟩:=z p J;refine bO_.value (V:=u) (w':=w) ?_ (Goes.same hM m (.flat _ _ B) fun q hq => ?_)
 . simp [execOp,U,e,Instr.extract,I]
 . have Y:v ∈ vs:=List.mem_of_getElem? J
   refine O q ?_;have:v.refsT=v.refsD\/∃ l,v = .tu l:=by cases v<;>simp [AV.refsT]
   rcases this with e2|⟨l,rfl⟩
   . exact List.mem_flatMap.2 ⟨v,Y,e2 ▸ hq⟩
   . simp [AV.isTu] at hn
end
end
section
variable [aj_]
open aj_
variable {ω:Type}
variable {E:Env} {x:X} {w:World} {G:ao_} {κ:X->AV->Option ω} {r:ω} {o:Oper} {α:Operand->Value}
omit [aj_] in
theorem AllF.drop {P:AV->Value->Prop}:∀ {l:List AV}{us:List Value}(k:Nat),AllF P l us->AllF P (l.drop k) (us.drop k)
 |[],[],k,_=>by simp;trivial
 |a::l,u::us,0,h=>h
 |a::l,u::us,k+1,h=>by simpa using AllF.drop k h.2
 |[],_::_,_,h=>h.elim
 |_::_,[],_,h=>h.elim
omit [aj_] in
theorem AllF.take {P:AV->Value->Prop}:∀ {l:List AV}{us:List Value}(k:Nat),AllF P l us->AllF P (l.take k) (us.take k)
 |_,_,0,_=>by simp;trivial
 |[],[],k+1,_=>by simp;trivial
 |a::l,u::us,k+1,h=>⟨h.1,AllF.take k h.2⟩
 |[],_::_,_+1,h=>h.elim
 |_::_,[],_+1,h=>h.elim
omit [aj_] in
theorem AllF.append {P:AV->Value->Prop}:∀ {l l':List AV}{us us':List Value},AllF P l us->AllF P l' us'->AllF P (l++l') (us++us')
 |[],l',[],us',_,h=>h
 |a::l,l',u::us,us',h,h'=>⟨h.1,AllF.append h.2 h'⟩
 |[],_,_::_,_,h,_=>h.elim
 |_::_,_,[],_,h,_=>h.elim
omit [aj_] in
theorem mJ_ {T:TypeId}{td:TD}(p:TDok E T td){b off:Nat}{us:List Value}(hr:w.rangeAt b off us)(hl:us.length=td.size) :
  (loadVar T ⟨b,off,none⟩).run E.P w = .ok (if td.agg then .agg (List.toArray us) else us.headD undef) w:=by
 cases hb:td.agg with
 |true=>
  obtain ⟨d,hd,k⟩:=p.agg hb;rw [run_loadVar_mid (P:=E.P) w b off T us d hr hd k (by rw [p.size,hl])];rfl
 |false=>
  obtain ⟨z,d,hd,k⟩:=p.flat hb;obtain ⟨u,rfl⟩:∃ u,us=[u]:=by
   match us,hl.trans z with
   |[u],_=>exact ⟨u,rfl⟩
  have m:(isAgg T).run E.P w = .ok false w:=by unfold isAgg;rw [Sem.run_bind,run_underlying hd w];cases d<;>simp_all
  have hc:=hr 0 u rfl;simp only [Nat.add_zero] at hc;simp [loadVar,Sem.run_bind,m,hc]
omit [aj_] in
theorem t7_ {T td}(k:TDok E T td){a}(m:o.op = .load T a){b off:Nat} (ha:α a = .pointer (some ⟨b,off,none⟩)) {us:List Value} (hr:w.rangeAt b off us) (hl:us.length=td.size) :
  (execOp α o).run E.P w = .ok (.value (if td.agg then .agg (List.toArray us) else us.headD undef)) w:=by
 simp only [execOp,m,ha,Instr.loadAt,Instr.sureAddr,Sem.run_bind,Sem.run_pure,Result.andThen_ok,mJ_ k hr hl]
theorem RT.val {T td}(k:TDok E T td){cs us} (h:AllF (RF E w x G) cs us) (hl:cs.length=td.size):RT E w x G (td.val cs) (if td.agg then .agg (List.toArray us) else us.headD undef):=by
 unfold TD.val;cases hb:td.agg with
 |true=>exact .flat _ _ (.inr ⟨cs,us,rfl,rfl,h⟩)
 |false=>
  obtain ⟨m,_⟩:=k.flat hb
  match cs,us,hl.trans m,h with
  |[c],[u],_,h=>exact .flat _ _ (.inl h.1)
omit [aj_] in
theorem AV.cel_refs {c:AV}(h:c.cel=true):c.refsT=c.refs:=by cases c<;>first|rfl|simp [AV.cel] at h
omit [aj_] in
theorem st_ {td:TD}{cs:List AV} (h:Used x (cs.flatMap AV.refs)) (hn:cs.all AV.cel=true):Used x (td.val cs).refsT:=by
 unfold TD.val;cases td.agg with
 |true=>exact h
 |false=>
  cases cs with
  |nil=>exact cx_
  |cons c cs=>
   simp only [List.all_cons,Bool.and_eq_true] at hn;intro q hq;exact h q (List.mem_flatMap.2 ⟨c,List.mem_cons_self ..,by rw [<-AV.cel_refs hn.1];exact hq⟩)
omit [aj_] in
theorem ee_ {b o:Nat}{vals:List Value}(h:w.rangeAt b o vals)(k n:Nat):w.rangeAt b (o+k) ((vals.drop k).take n):=by
 intro j v m;rw [List.getElem?_take] at m;split at m
 . rw [List.getElem?_drop] at m
   have:=h (k+j) v m
   rwa [<-Nat.add_assoc] at this
 . cases m
omit [aj_] in
theorem gD_ {b:Nat}{cur:List Value}{T fr} (h:w.heap[b]?=some (.cells (List.toArray cur) T fr)):w.rangeAt b 0 cur:=by intro j v k;rw [Nat.zero_add,cell_of_row w b j _ T fr h];simpa using k
theorem dY_ [ai_](m:M)(t:TC):∀ xs:List (El t),(aT_ m t xs).length=xs.length*t.width
 |[]=>by simp [aT_]
 |x::xs=>by have:=dY_ m t xs;simp only [aT_,List.flatMap_cons,List.length_append,ai_.len,List.length_cons,Nat.add_mul] at *;omega
theorem cI_ (m:M)(t:TC) (xs ys:List (El t)):aT_ m t (xs++ys)=aT_ m t xs++aT_ m t ys:=by simp [aT_]
theorem RL.row [ai_]{F:Nat->Prop}{m:M}{t:TC}{xs:List (El t)}{vals φ} (h:RL E w F (aT_ m t xs) vals φ) {i:Nat} (hi:i<xs.length) :
  ∃ us vs ws φ₁ φ₂ φ₃,vals=us++vs++ws/\us.length=i*t.width/\vs.length=t.width/\RL E w F (aT_ m t (xs.take i)) us φ₁/\RL E w F (enc m t (xs.getD i (El.dflt t))) vs φ₂ /\
    RL E w F (aT_ m t (xs.drop (i+1))) ws φ₃/\∀ b,φ b=φ₁ b+φ₂ b+φ₃ b:=by
 have e:xs=xs.take i++(xs.getD i (El.dflt t)::xs.drop (i+1)):=by
  have u:xs.getD i (El.dflt t)=xs[i]:=by simp [List.getD_eq_getElem?_getD,List.getElem?_eq_getElem hi]
  rw [u,List.getElem_cons_drop,List.take_append_drop]
 have p:RL E w F (aT_ m t (xs.take i)++(enc m t (xs.getD i (El.dflt t))++aT_ m t (xs.drop (i+1)))) vals φ:=by
  have k:aT_ m t (xs.take i)++(enc m t (xs.getD i (El.dflt t))++aT_ m t (xs.drop (i+1)))=aT_ m t xs:=by
   conv=>rhs;rw [e]
   rw [cI_];simp [aT_]
  rw [k];exact h
 obtain ⟨us,r,φ₁,φ',rfl,k1,k2,e1⟩:=RL.split p;obtain ⟨vs,ws,φ₂,φ₃,rfl,k3,k4,e2⟩:=RL.split k2;refine ⟨us,vs,ws,φ₁,φ₂,φ₃,by rw [List.append_assoc],?_,?_,k1,k3,k4,fun b=>by rw [e1,e2];omega⟩
 . rw [<-k1.length,dY_,List.length_take,Nat.min_eq_left (Nat.le_of_lt hi)]
 . rw [<-k3.length,ai_.len]
omit [aj_] in
theorem gE_ {t e size n v vals g a c}(h:w.ownsRow t e size v n vals) (k:v = .slice (some ⟨g,0,none⟩) a c):w.rangeAt g 0 vals:=by
 subst k;intro j u m;have:=h.cells (g:=g) rfl j u m
 rwa [Addr.add_mid] at this
def AV.coded (m:M)(a:AV):Prop:=(∃ k n,a = .i k n)\/(∃ q,a = .b q)\/(∃ l,a = .s l)\/∃ t' xs,a = .sl m t' xs
theorem RL.vzero {F:Nat->Prop}{t ys v φ}(h:RL E w F [.sl .v t ys] [v] φ):∀ b,φ b=0:=by
 cases h with
 |scal _ _ _ _ _ hs _=>exact hs.elim
 |view=>rename_i m;exact (RL.nil_inv m).2
 |own=>rename_i k _ _ _ _ _;exact absurd rfl k
theorem oe_ {m:M}{q st i:Nat}(I:m ≠ .v):∀ (l:List AV)(j:Nat)(us:List Value)(φ),RL E w (Fof x G) l us φ->(∀ a ∈ l,a.coded m.sub) ->
  (m = .d->∀ (k:Nat) t' ys v,l[k]?=some (.sl .d t' ys)->us[k]?=some v->v.oneCell'=true->RF E w x G (.ns q st i (j+k) t' ys) v) ->
  AllF (RF E w x G) (hF_ m q st i j (l.map AV.asView)) us
 |[],j,us,φ,h,_,_=>by obtain ⟨rfl,_⟩:=RL.nil_inv h;trivial
 |a::l,j,us,φ,h,hc,hn=>by
  obtain ⟨v,vs,φ₁,φ₂,rfl,z,T,e⟩:=RL.uncons h;have ih:=oe_ I l (j+1) vs φ₂ T (fun a ha=>hc a (List.mem_cons_of_mem _ ha)) fun hd k t' ys u S J O=>by
   have:=hn hd (k+1) t' ys u (by simpa using S) (by simpa using J) O
   rwa [show j+(k+1)=j+1+k from by omega] at this
  rcases hc a (List.mem_cons_self ..) with ⟨k,n,rfl⟩|⟨p,rfl⟩|⟨p,rfl⟩|⟨t',ys,rfl⟩
  . refine ⟨?_,ih⟩
    cases z with
    |scal _ _ _ _ _ hs _=>exact .scal _ _ _ _ _ hs (.nil _ fun _=>rfl)
  . refine ⟨?_,ih⟩
    cases z with
    |scal _ _ _ _ _ hs _=>exact .scal _ _ _ _ _ hs (.nil _ fun _=>rfl)
  . refine ⟨?_,ih⟩
    cases z with
    |scal _ _ _ _ _ hs _=>exact .scal _ _ _ _ _ hs (.nil _ fun _=>rfl)
  . cases m with
    |v=>exact absurd rfl I
    |s=>
     exact ⟨z.congr fun b=>by rw [RL.vzero z b],ih⟩
    |d=>
     refine ⟨hn rfl 0 t' ys v rfl rfl ?_,ih⟩;cases z with
     |scal _ _ _ _ _ hs _=>exact hs.elim
     |own _ _ _ _ _ _ _ _ _ _ _ B=>rcases B.2 with ⟨rfl,_⟩|⟨_,_,_,rfl,_⟩<;>rfl
theorem RL.norefs {F:Nat->Prop}{l us φ}(h:RL E w F l us φ):∀ a ∈ l,a.refs=[]:=by
 induction h with
 |nil=>intro a ha;cases ha
 |scal a v l vs φ hs _ ih=>
  intro b hb;rcases List.mem_cons.1 hb with rfl|hb
  . cases b<;>first|rfl|exact hs.elim
  . exact ih b hb
 |view _ _ _ _ _ _ _ _ _ _ _ _ _ _ _ _ ih=>intro b hb;rcases List.mem_cons.1 hb with rfl|hb<;>first|rfl|exact ih _ hb
 |own _ _ _ _ _ _ _ _ _ _ _ _ _ _ _ _ _ ih=>intro b hb;rcases List.mem_cons.1 hb with rfl|hb<;>first|rfl|exact ih _ hb
 |pc _ _ _ _ _ _ _ _ _ _ _ _ _ _ _ _ ih=>intro b hb;rcases List.mem_cons.1 hb with rfl|hb<;>first|rfl|exact ih _ hb
 |bx _ _ _ _ _ _ _ _ _ _ _ _ _ _ _ ih=>intro b hb;rcases List.mem_cons.1 hb with rfl|hb<;>first|rfl|exact ih _ hb
 |ag _ _ _ _ _ _ _ _ _ _ _ ih=>intro b hb;rcases List.mem_cons.1 hb with rfl|hb<;>first|rfl|exact ih _ hb
 |tu _ _ _ _ _ _ _ _ _ _ _ ih=>intro b hb;rcases List.mem_cons.1 hb with rfl|hb<;>first|rfl|exact ih _ hb
 |clo _ _ _ _ _ _ _ _ _ _ _ ih=>intro b hb;rcases List.mem_cons.1 hb with rfl|hb<;>first|rfl|exact ih _ hb
omit [aj_] in
theorem AllF.len {P:AV->Value->Prop}{l us}(h:AllF P l us):us.length=l.length:=h.length.symm
section
variable (hM:Mem E x w G)
include hM
theorem go_load [ai_]{T td}(ht:TDok E T td){a}(ho:o.op = .load T a){p:AV} (hp:RT E w x G p (α a)) (hu:Used x p.refsT) {cs:List AV} (h:loadAt x td.size p=some cs)
  (hl:cs.length=td.size) (hc:cs.all AV.cel=true) (hk:κ x (td.val cs)=some r):bO_ E o α κ r x w G:=by
 have fin:∀ {b off us},α a = .pointer (some ⟨b,off,none⟩)->w.rangeAt b off us->AllF (RF E w x G) cs us->Used x (cs.flatMap AV.refs)->bO_ E o α κ r x w G:=by intro b off us e hr u U;exact bO_.value (t7_ ht ho e hr (u.len.trans hl)) (Goes.same hM hk (RT.val ht u hl) (st_ U hc))
 cases p<;>simp only [loadAt] at h<;>(try (cases h;done))
 case pb q off=>
  cases hq:x.h q with
  |none=>rw [hq] at h;cases h
  |some blk=>
   rw [hq] at h;cases blk with
   |arr=>cases h
   |ext=>cases h
   |box bs=>
    simp only [Option.some.injEq] at h;have Y:=hp.rf (by intro cs e;cases e) (by intro cs e;cases e) (by intro f cs e;cases e);obtain ⟨⟨cur,T',hcur,u⟩,hφ,U⟩:=hM.root q _ hq;subst h;refine fin (Y.2 bs hq) (us:=(cur.drop off).take td.size) ?_ ((u.drop off).take _) ?_
    . have:=ee_ (gD_ hcur) off td.size
      rwa [Nat.zero_add] at this
    . intro z B
      obtain ⟨c,S,I⟩:=List.mem_flatMap.1 B;exact U z (List.mem_flatMap.2 ⟨c,List.mem_of_mem_drop (List.mem_of_mem_take S),I⟩)
 case pe q i off=>
  cases hq:x.h q with
  |none=>rw [hq] at h;cases h
  |some blk=>
   rw [hq] at h;cases blk with
   |box=>cases h
   |ext=>cases h
   |arr m t st xs=>
    simp only [Option.some.injEq] at h;have Y:=hp.rf (by intro cs e;cases e) (by intro cs e;cases e) (by intro f cs e;cases e);obtain ⟨hi,g,n,c,hsv,hv⟩:=Y.2 _ _ _ _ (.arr hq);obtain ⟨hm,how,ψ,hrl,hφ⟩:=hM.root q _ hq;obtain ⟨us,vs,ws,φ₁,φ₂,φ₃,J,hl1,hl2,k1,k2,k3,he⟩:=hrl.row hi;have u:AllF (RF E w x G) (hF_ m q st i 0 (enc .v t (xs.getD i (El.dflt t)))) vs:=by
     have:=oe_ (x:=x) (G:=G) (q:=q) (st:=st) (i:=i) hm (enc m.sub t (xs.getD i (El.dflt t))) 0 vs φ₂ k2 (fun a ha=>ai_.cell _ _ _ a ha) ?_
     . rwa [ai_.view] at this
     . intro hd k t' ys v hk' Z ho'
       subst hd;refine ⟨ho',fun m' t'' st' xs' O => ?_,fun _ O=>by rw [hq] at O;cases O⟩;rw [hq] at O;cases O;refine ⟨Nat.le_refl _,fun _=>⟨hi,by rw [Nat.zero_add];exact hk',?_⟩⟩;rw [J,Nat.zero_add,List.append_assoc,List.getElem?_append_right (by omega),hl1,List.getElem?_append_left (by
        have:=(List.getElem?_eq_some_iff.1 Z).1;omega)]
       rw [show i*t.width+k - i*t.width=k from by omega];exact Z
    subst h;refine fin hv (us:=(vs.drop off).take td.size) ?_ ((u.drop off).take _) ?_
    . have h1:=gE_ how hsv
      have h2:=ee_ h1 (i*t.width) t.width;have h3:((G.vals q).drop (i*t.width)).take t.width=vs:=by rw [J,List.append_assoc,<-hl1,List.drop_left,<-hl2,List.take_left]
      rw [h3] at h2;have:=ee_ h2 off td.size
      rwa [Nat.zero_add] at this
    . intro z B
      obtain ⟨c,S,I⟩:=List.mem_flatMap.1 B;have hc3:=List.mem_of_mem_drop (List.mem_of_mem_take S);have key:∀ (l:List AV)(j:Nat)(c:AV),(∀ a ∈ l,a.coded .v)->c ∈ hF_ m q st i j l->∀ z ∈ c.refs,z=q:=by
       intro l;induction l with
       |nil=>intro j c _ hc;cases hc
       |cons a l ih=>
        intro j c ha hc z B;rcases ha a (List.mem_cons_self ..) with ⟨k,n,rfl⟩|⟨p,rfl⟩|⟨p,rfl⟩|⟨t',ys,rfl⟩
        . rcases List.mem_cons.1 hc with rfl|hc
          . simp [AV.refs] at B
          . exact ih _ _ (fun a h=>ha a (List.mem_cons_of_mem _ h)) hc z B
        . rcases List.mem_cons.1 hc with rfl|hc
          . simp [AV.refs] at B
          . exact ih _ _ (fun a h=>ha a (List.mem_cons_of_mem _ h)) hc z B
        . rcases List.mem_cons.1 hc with rfl|hc
          . simp [AV.refs] at B
          . exact ih _ _ (fun a h=>ha a (List.mem_cons_of_mem _ h)) hc z B
        . rcases List.mem_cons.1 hc with rfl|hc
          . cases m<;>simp [AV.refs] at B<;>exact B
          . exact ih _ _ (fun a h=>ha a (List.mem_cons_of_mem _ h)) hc z B
      rw [key _ 0 c (fun a ha=>ai_.cell _ _ _ a ha) hc3 z I];exact hM.used q _ hq
 case pc bs off=>
  simp only [Option.some.injEq] at h;have Y:=hp.rf (by intro cs e;cases e) (by intro cs e;cases e) (by intro f cs e;cases e);generalize hv:α a=V at Y;cases Y with
  |scal _ _ _ _ _ hs _=>exact hs.elim
  |pc _ b o' _ vals z _ _ _ h1 B hr hlt hF _=>
   subst h;refine fin hv (us:=(vals.drop off).take td.size) (ee_ hr off td.size) (((h1.allRF B).drop off).take _) ?_;intro z' hz';obtain ⟨c,S,I⟩:=List.mem_flatMap.1 hz';rw [h1.norefs c (List.mem_of_mem_drop (List.mem_of_mem_take S))] at I;cases I
end
end
section
def ao_.put (G:ao_)(q:Nat)(sv:Value)(vals:List Value)(φ:Nat->Nat)(g:Nat):ao_ :=
 ⟨fun r=>if r=q then sv else G.sv r,fun r=>if r=q then vals else G.vals r,fun r=>if r=q then φ else G.φ r,fun r=>if r=q then g else G.g r⟩
theorem bd_ {α:Type}(f:Nat->α)(k:Nat)(v:α):upd f k v k=v:=by simp [upd]
theorem bg_ {α:Type}(f:Nat->α)(k:Nat)(v:α){j:Nat}(h:j≠k):upd f k v j=f j:=by
 have:Nat.beq j k=false:=by
  cases hb:Nat.beq j k with
  |false=>rfl
  |true=>exact absurd (Nat.eq_of_beq_eq_true hb) h
 simp [upd,this]
structure Grew (w w':World):Prop where
 os:w'.os=w.os
 tape:w'.tape=w.tape
 output:w'.output=w.output
 size:w.heap.size<=w'.heap.size
 heap:∀ b,b<w.heap.size->w'.heap[b]?=w.heap[b]?
theorem Grew.alloc (w:World)(o:Obj):Grew w (w.alloc o):=⟨rfl,rfl,rfl,by simp,fun b hb=>heap_alloc_old w o b hb⟩
def Sub (x' x:X):Prop:=(∀ r b,x'.h r=some b->x.h r=some b)/\x'.u=x.u
theorem Sub.refl (x:X):Sub x x:=⟨fun _ _ h=>h,rfl⟩
theorem Sub.trans {a b c:X}(h:Sub a b)(k:Sub b c):Sub a c:=⟨fun r q hq=>k.1 r q (h.1 r q hq),h.2.trans k.2⟩
theorem Sub.kill (x:X)(q:Nat):Sub (x.blk q none) x:=by
 refine ⟨fun r b h => ?_,rfl⟩;by_cases e:r=q
 . subst e;simp [X.blk,bd_] at h
 . simpa [X.blk,bg_ _ _ _ e] using h
theorem Sub.fof {x' x:X}{G:ao_}(h:Sub x' x){b:Nat}(hb:Fof x' G b):Fof x G b:=by obtain ⟨r,k,p,m⟩:=hb;exact ⟨r,k,h.1 r k p,m⟩
theorem Sub.evo {x' x:X}{w:World}{G:ao_}(h:Sub x' x):Evo x w G x' w G :=
 ⟨rfl,rfl,rfl,Nat.le_refl _,fun _ _ _=>rfl,fun b _ hb=>h.fof hb,fun r hr=>by rw [h.2];exact hr,fun r blk' _ hr=>⟨blk',h.1 r _ hr,Same.refl _,rfl,rfl,fun _ _ _ _ _ _ _ _ _=>rfl⟩,fun _ _ _ _=>⟨rfl,fun _ _=>rfl⟩⟩
variable [aj_]
open aj_
variable {E:Env} {x:X} {w w':World} {G:ao_}
theorem Mem.sub (hM:Mem E x w G){x'}(h:Sub x' x):Mem E x' w G :=
 hM.build h.evo (fun _=>False) (fun _ _ _=>rfl) (fun r blk hr=>.inl ⟨h.1 r _ hr,rfl,rfl,rfl,fun _=>rfl,fun _ _=>id⟩)
  (fun r r' blk blk' b m k=>hM.sep r r' blk blk' b (h.1 _ _ m) (h.1 _ _ k))
def X.add (x:X)(q:Nat)(blk:Blk):X:=⟨upd x.h q (some blk),upd x.u q true⟩
omit [aj_] in
theorem Evo.add {x1:X}(I:Sub x1 x){q}(hq:x.u q=false)(m:Grew w w'){blk sv vals φ g}(hφ:∀ b,φ b≠0->b<w.heap.size->Fof x G b) :
  Evo x w G (x1.add q blk) w' (G.put q sv vals φ g):=by
 refine ⟨m.os,m.tape,m.output,m.size,fun b hb _=>m.heap b hb,fun b hb O => ?_,fun r hr => ?_,fun r blk' p hr => ?_,fun r b p hr => ?_⟩
 . obtain ⟨r,k,J,z⟩:=O
   by_cases e:r=q
   . subst e
     simp only [ao_.put,if_true] at z;exact hφ b z hb
   . simp only [ao_.put,if_neg e] at z
     simp only [X.add,bg_ _ _ _ e] at J;exact ⟨r,k,I.1 _ _ J,z⟩
 . by_cases e:r=q
   . subst e;exact bd_ _ _ _
   . simp only [X.add,bg_ _ _ _ e,I.2];exact hr
 . by_cases e:r=q
   . subst e;rw [hq] at p;cases p
   . simp only [X.add,bg_ _ _ _ e] at hr
     refine ⟨blk',I.1 _ _ hr,Same.refl _,by simp only [ao_.put,if_neg e],by simp only [ao_.put,if_neg e],fun _ _ _ _ _ _ _ _ _=>by simp only [ao_.put,if_neg e]⟩
 . by_cases e:r=q
   . subst e;rw [hq] at p;cases p
   . exact ⟨by simp only [ao_.put,if_neg e],fun _ B=>m.heap b B⟩
theorem Mem.add (hM:Mem E x w G){x1:X}(p:Sub x1 x){q}(hq:x.u q=false)(I:Grew w w'){blk sv vals φ g}(hφ:∀ b,φ b≠0->b<w.heap.size->Fof x G b/\¬ Fof x1 G b)(S:∀ b,φ b<=1)(z:∀ b,φ b≠0->b<w'.heap.size)
  (m:jz_ E (x1.add q blk) w' (G.put q sv vals φ g) q blk):Mem E (x1.add q blk) w' (G.put q sv vals φ g):=by
 have ev:=Evo.add p hq I (blk:=blk) (sv:=sv) (vals:=vals) (φ:=φ) (g:=g) fun b O J=>(hφ b O J).1;have k:∀ r blk',r≠q->(x1.add q blk).h r=some blk'->x1.h r=some blk':=fun r blk' e h=>by simpa only [X.add,bg_ _ _ _ e] using h
 refine hM.build ev (fun _=>False) (fun b hb _=>I.heap b hb) (fun r blk' hr => ?_) (fun r r' b1 b2 b k1 k2 k3 k4 => ?_)
 . by_cases e:r=q
   . subst e
     have:blk=blk':=by simpa only [X.add,bd_,Option.some.injEq] using hr
     subst this;exact .inr ⟨m,bd_ _ _ _,fun b=>by simp only [ao_.put,if_true];exact ⟨S b,z b⟩⟩
   . exact .inl ⟨p.1 _ _ (k r _ e hr),by simp only [ao_.put,if_neg e],by simp only [ao_.put,if_neg e],by simp only [ao_.put,if_neg e],fun b=>by simp only [ao_.put,if_neg e],fun _ _=>id⟩
 . by_cases e:r=q
   . by_cases e':r'=q
     . rw [e,e']
     . exfalso
       subst e;simp only [ao_.put,if_true] at k3;simp only [ao_.put,if_neg e'] at k4;have B:=hM.low r' b2 b (p.1 _ _ (k r' _ e' k2)) k4;exact (hφ b k3 B).2 ⟨r',b2,k r' _ e' k2,k4⟩
   . by_cases e':r'=q
     . exfalso
       subst e';simp only [ao_.put,if_true] at k4;simp only [ao_.put,if_neg e] at k3;have B:=hM.low r b1 b (p.1 _ _ (k r _ e k1)) k3;exact (hφ b k4 B).2 ⟨r,b1,k r _ e k1,k3⟩
     . simp only [ao_.put,if_neg e] at k3
       simp only [ao_.put,if_neg e'] at k4;exact hM.sep r r' b1 b2 b (p.1 _ _ (k r _ e k1)) (p.1 _ _ (k r' _ e' k2)) k3 k4
variable {ω:Type} {κ:X->AV->Option ω} {r:ω} {o:Oper} {α:Operand->Value}
theorem Goes.box (hM:Mem E x w G){q cs cur T}(hq:x.u q=false) (hc:AllF (RF E w x G) cs cur) (B:Used x (cs.flatMap AV.refs)) (J:κ (x.add q (.box cs)) (.pb q 0)=some r) :
  Goes E κ r x w G (.pointer (some ⟨w.heap.size,0,none⟩)) (w.alloc (.cells (List.toArray cur) T)):=by
 have p:=Grew.alloc w (.cells (List.toArray cur) T);have hφ:∀ b,(if w.heap.size=b then 1 else 0)≠0->b<w.heap.size->Fof x G b/\¬ Fof x G b:=fun b k I=>by
  by_cases e:w.heap.size=b
  . omega
  . simp [e] at k
 have ev:=Evo.add (Sub.refl x) hq p (blk:=.box cs) (sv:=undef) (vals:=[]) (φ:=fun b=>if w.heap.size=b then 1 else 0) (g:=w.heap.size) (fun b k I=>(hφ b k I).1);refine ⟨_,_,_,J,ev,hM.add (Sub.refl x) hq p hφ (fun b=>by split<;>omega) (fun b k => ?_) ?_,?_,?_⟩
 . by_cases e:w.heap.size=b
   . subst e;simp
   . simp [e] at k
 . refine ⟨⟨cur,T,?_,hc.evolve ev B⟩,fun b => ?_,B.evolve ev⟩
   . simp only [ao_.put,if_true]
     exact heap_alloc_new w _
   . simp only [ao_.put,if_true]
 . refine .flat _ _ (.inl ⟨rfl,fun cs' _ => ?_⟩)
   simp only [ao_.put,if_true]
 . intro z m
   simp only [AV.refsT,AV.refsD,AV.refs,List.mem_singleton] at m;subst m;exact bd_ _ _ _
end
section
variable [aj_]
open aj_
variable {ω:Type}
variable {E:Env} {x:X} {w w':World} {G:ao_} {κ:X->AV->Option ω} {r:ω} {o:Oper} {α:Operand->Value}
theorem RF.of_scl {a v}(h:scl a v):RF E w x G a v:=by have:RL E w (Fof x G) [a] [v] (fun _=>0):=.scal _ _ _ _ _ h (.nil _ fun _=>rfl);cases a<;>first|exact this|exact h.elim
omit [aj_] in
theorem scl_refs {a v}(h:scl a v):a.refs=[]:=by cases a<;>first|rfl|exact h.elim
omit [aj_] in
theorem AllF.scl_refs:∀ {l us},AllF scl l us->l.flatMap AV.refs=[]
 |[],[],_=>rfl
 |a::l,u::us,h=>by rw [List.flatMap_cons,Pi.scl_refs h.1,AllF.scl_refs h.2];rfl
 |[],_::_,h=>h.elim
 |_::_,[],h=>h.elim
section
variable (hM:Mem E x w G)
include hM
theorem go_alloc {T td}(B:TDok E T td)(I:o.op = .alloc T){q} (h:x.new q (.box td.zero) (fun x=>κ x (.pb q 0))=some r):bO_ E o α κ r x w G:=by
 unfold X.new at h;cases hq:x.u q with
 |true=>rw [hq] at h;cases h
 |false=>
  rw [hq] at h;obtain ⟨O,J,i,z,zs,hi,p,m,k⟩:=B.zero;refine bO_.value (V:=.pointer (some ⟨w.heap.size,0,none⟩)) (w':=w.alloc (.cells (List.toArray zs) T)) ?_ (Goes.box hM hq (k.mono fun a v _ h=>RF.of_scl h) (by rw [k.scl_refs];exact cx_) h);simp [execOp,I,Instr.alloc,zeroValue,typeInfo,hi,p,newVar,newRow,m]
theorem go_box {T a}(J:o.op = .box T a){p:AV} (I:RT E w x G p (α a)) (B:Used x p.refsT) (hl:p.cells.all AV.one=true) {q} (h:x.new q (.box p.cells) (fun x=>κ x (.pb q 0))=some r):bO_ E o α κ r x w G:=by
 unfold X.new at h;cases hq:x.u q with
 |true=>rw [hq] at h;cases h
 |false=>
  rw [hq] at h;obtain ⟨us,e,k⟩:=I.cells hl;refine bO_.value (V:=.pointer (some ⟨w.heap.size,0,none⟩)) (w':=w.alloc (.cells (List.toArray us) T)) ?_ (Goes.box hM hq k ?_ h)
  . simp [execOp,J,Instr.box,newVar,newRow,e]
  . intro z m
    refine B z ?_;cases p<;>first
     |exact m
     |(simp only [AV.cells,List.flatMap_cons,List.flatMap_nil,List.append_nil] at m;exact m)
     |(simp [AV.cells,AV.one] at hl)
theorem iH_ {x1:X}(S:Sub x1 x):∀ (cs:List AV)(x1:X),Sub x1 x->∀ us x2 cs' ok,AllF (RF E w x G) cs us->bA_ x1 cs=some (x2,cs',ok) ->
  Sub x2 x1/\∃ φ,RL E w (Fof x G) cs' us φ/\(ok=true->cs'.all AV.okD=true)/\(∀ b,φ b<=1)/\(∀ b,φ b≠0->¬ Fof x2 G b)/\∀ b,φ b≠0->∃ q blk,x1.h q=some blk/\x2.h q=none/\G.φ q b≠0:=by
 intro cs;induction cs with
 |nil=>
  intro x1 S us x2 cs' ok z h;simp only [bA_,Option.some.injEq,Prod.mk.injEq] at h;obtain ⟨rfl,rfl,rfl⟩:=h;cases us with
  |cons=>exact z.elim
  |nil=>exact ⟨Sub.refl _,fun _=>0,.nil _ fun _=>rfl,fun _=>rfl,fun _=>Nat.zero_le _,fun b hb=>absurd rfl hb,fun b hb=>absurd rfl hb⟩
 |cons c cs ih=>
  intro x1 S us x2 cs' ok z h;cases us with
  |nil=>exact z.elim
  |cons u us=>
   obtain ⟨hc,z⟩:=z;have k:∀ (c':AV)(f:Bool->Bool),RL E w (Fof x G) [c'] [u] (fun _=>0)->(∀ ok,f ok=true->ok=true/\c'.okD=true) ->
     (match bA_ x1 cs with|some (x',l',ok)=>some (x',c'::l',f ok)|none=>none)=some (x2,cs',ok) ->
     Sub x2 x1/\∃ φ,RL E w (Fof x G) cs' (u::us) φ/\(ok=true->cs'.all AV.okD=true)/\(∀ b,φ b<=1)/\(∀ b,φ b≠0->¬ Fof x2 G b)/\∀ b,φ b≠0->∃ q blk,x1.h q=some blk/\x2.h q=none/\G.φ q b≠0:=by
    intro c' f O hf h;cases hi:bA_ x1 cs with
    |none=>rw [hi] at h;cases h
    |some p=>
     obtain ⟨x',l',ok'⟩:=p;rw [hi] at h;simp only [Option.some.injEq,Prod.mk.injEq] at h;obtain ⟨rfl,rfl,rfl⟩:=h;obtain ⟨s1,φ,k1,k2,k3,k4,k5⟩:=ih x1 S us _ _ _ z hi;exact ⟨s1,φ,O.cons k1 (fun b=>by simp only [Nat.zero_add]),fun h=>by have:=hf _ h;simp [this.2,k2 this.1],k3,k4,k5⟩
   cases c<;>simp only [bA_] at h<;>(try (cases h;done))
   case i=>exact k _ id (by simpa only [RF] using hc) (fun ok h=>⟨h,rfl⟩) h
   case b=>exact k _ id (by simpa only [RF] using hc) (fun ok h=>⟨h,rfl⟩) h
   case s=>exact k _ id (by simpa only [RF] using hc) (fun ok h=>⟨h,rfl⟩) h
   case nils=>exact k _ id (by simpa only [RF] using hc) (fun ok h=>⟨h,rfl⟩) h
   case sl m t xs=>
    cases m<;>simp only at h<;>(try (cases h;done));exact k (.sl .v t xs) (fun _=>false) hc (fun ok h=>by cases h) h
   case rt q=>
    cases hq:x1.h q with
    |none=>rw [hq] at h;cases h
    |some blk=>
     rw [hq] at h;cases blk with
     |box=>cases h
     |ext=>cases h
     |arr m t st xs=>
      simp only at h;cases hi:bA_ (x1.blk q none) cs with
      |none=>rw [hi] at h;cases h
      |some p=>
       obtain ⟨x',l',ok'⟩:=p;rw [hi] at h;simp only [Option.some.injEq,Prod.mk.injEq] at h;obtain ⟨rfl,rfl,rfl⟩:=h;obtain ⟨s1,φ,k1,k2,k3,k4,k5⟩:=ih (x1.blk q none) ((Sub.kill x1 q).trans S) us _ _ _ z hi;have B:=S.1 q _ hq;obtain ⟨Y,U,ψ,O,hφ⟩:=hM.root q _ B;have T:=hc.2 _ _ _ _ (.arr B);have I:x'.h q=none:=by
        cases e:x'.h q with
        |none=>rfl
        |some b=>have:=s1.1 q b e;simp [X.blk,bd_] at this
       have V:∀ b,G.φ q b≠0->φ b=0:=fun b hb=>by
        by_cases J:φ b=0
        . exact J
        . obtain ⟨q',blk',e1,e2,e3⟩:=k5 b J
          have e4:=hM.sep q q' _ _ b B (S.1 _ _ ((Sub.kill x1 q).1 _ _ e1)) hb e3;subst e4;simp [X.blk,bd_] at e1
       refine ⟨s1.trans (Sub.kill x1 q),fun b=>G.φ q b+φ b,?_,?_,?_,?_,?_⟩
       . subst T
         exact .own m t xs _ _ ψ _ _ φ _ Y U O (fun b hb=>⟨q,_,B,by rw [hφ];omega⟩) k1 (fun b=>by rw [hφ])
       . intro h
         simp only [Bool.and_eq_true] at h;simp only [List.all_cons,k2 h.1,Bool.and_true];cases m with
         |v=>exact absurd rfl Y
         |s=>exact h.2
         |d=>rfl
       . intro b
         show G.φ q b+φ b<=1;have:=hM.one q _ b B;by_cases J:G.φ q b=0
         . have:=k3 b;omega
         . have:=V b J;omega
       . intro b hb Z
         have hb:G.φ q b+φ b≠0:=hb;by_cases J:φ b=0
         . obtain ⟨q',blk',e1,e2⟩:=Z
           have h1:G.φ q b≠0:=by omega
           have e4:=hM.sep q q' _ _ b B (S.1 _ _ ((Sub.kill x1 q).1 _ _ (s1.1 _ _ e1))) h1 e2;subst e4;rw [I] at e1;cases e1
         . exact k4 b J Z
       . intro b hb
         have hb:G.φ q b+φ b≠0:=hb;by_cases J:φ b=0
         . exact ⟨q,_,hq,I,by omega⟩
         . obtain ⟨q',blk',e1,e2,e3⟩:=k5 b J
           exact ⟨q',blk',(Sub.kill x1 q).1 _ _ e1,e2,e3⟩
end
end
section
theorem AllF.setRange {P:AV->Value->Prop}:∀ {bs:List AV}{cur:List Value}(off:Nat){cs us},AllF P bs cur->AllF P cs us->off+cs.length<=bs.length->AllF P (setRange bs off cs) (cur.take off++us++cur.drop (off+us.length))
 |bs,cur,0,cs,us,h,k,hl=>by
  have e:Pi.setRange bs 0 cs=cs++bs.drop cs.length:=by cases bs<;>rfl
  rw [e,k.length];simpa using k.append (h.drop us.length)
 |[],cur,off+1,cs,us,h,k,hl=>by simp at hl
 |a::bs,[],off+1,cs,us,h,k,hl=>h.elim
 |a::bs,u::cur,off+1,cs,us,h,k,hl=>by have ih:=AllF.setRange off h.2 k (by simp at hl ⊢;omega);refine ⟨by simpa using h.1,?_⟩;simpa [Nat.add_right_comm] using ih
theorem iA_:∀ (bs:List AV)(off:Nat)(cs:List AV),off+cs.length<=bs.length->(setRange bs off cs).length=bs.length
 |bs,0,cs,hl=>by
  have e:setRange bs 0 cs=cs++bs.drop cs.length:=by cases bs<;>rfl
  rw [e];simp at hl ⊢;omega
 |[],off+1,cs,hl=>by simp at hl
 |a::bs,off+1,cs,hl=>by have:=iA_ bs off cs (by simp at hl ⊢;omega);simp [setRange,this]
theorem mG_:∀ (bs:List AV)(off:Nat)(cs:List AV),off+cs.length<=bs.length->setRange bs off cs=bs.take off++cs++bs.drop (off+cs.length)
 |bs,0,cs,hl=>by
  have e:setRange bs 0 cs=cs++bs.drop cs.length:=by cases bs<;>rfl
  rw [e];simp
 |[],off+1,cs,hl=>by simp at hl
 |a::bs,off+1,cs,hl=>by have:=mG_ bs off cs (by simp at hl ⊢;omega);simp [setRange,this,Nat.add_right_comm]
theorem iz_:∀ (bs:List AV)(off:Nat)(cs:List AV)(c:AV),c ∈ setRange bs off cs->c ∈ bs\/c ∈ cs
 |bs,0,cs,c,h=>by
  have e:setRange bs 0 cs=cs++bs.drop cs.length:=by cases bs<;>rfl
  rw [e] at h;rcases List.mem_append.1 h with h|h
  . exact .inr h
  . exact .inl (List.mem_of_mem_drop h)
 |[],off+1,cs,c,h=>by cases h
 |a::bs,off+1,cs,c,h=>by
  rcases List.mem_cons.1 h with rfl|h
  . exact .inl (List.mem_cons_self ..)
  . rcases iz_ bs off cs c h with h|h
    . exact .inl (List.mem_cons_of_mem _ h)
    . exact .inr h
variable [aj_]
open aj_
variable {ω:Type}
variable {E:Env} {x:X} {w w':World} {G:ao_} {κ:X->AV->Option ω} {r:ω} {o:Oper} {α:Operand->Value}
omit [aj_] in
theorem kI_ {p:AV}(m:Used x p.refsT)(hl:p.cells.all AV.one=true):Used x (p.cells.flatMap AV.refs):=by
 intro z k;refine m z ?_;cases p<;>first
  |exact k
  |(simp only [AV.cells,List.flatMap_cons,List.flatMap_nil,List.append_nil] at k;exact k)
  |(simp [AV.cells,AV.one] at hl)
omit [aj_] in
theorem gB_ {T td a v}(p:TDok E T td)(B:o.op = .store T a v){g off:Nat} (ha:α a = .pointer (some ⟨g,off,none⟩)) {us:List Value} (z:(α v).cells=List.toArray us) (hl:us.length=td.size) (J:∀ u ∈ us,u.oneCell'=true)
  {cur:Array Value} {t:TypeId} (I:w.heap[g]?=some (.cells cur t (0,0))) (m:off+us.length<=cur.size) :
  (execOp α o).run E.P w = .ok .skip (w.setRow g (cur.toList.take off++us++cur.toList.drop (off+us.length)).toArray):=by
 have k:=run_storeCells_at E.P g off t us 0 cur w I (by simpa using m) J;simp only [Nat.add_zero] at k;cases hq:E.P.info? T with
 |none=>have:=p.size;simp [hq] at this
 |some i=>
  have hs:i.size=td.size:=by have:=p.size;simpa [hq] using this
  simp [execOp,B,ha,Instr.storeAt,Instr.sureAddr,storeVar,sizeOf,typeInfo,hq,z,hs,hl,k]
theorem bO_.skip {w'} (h:(execOp α o).run E.P w = .ok .skip w') (k:Goes E κ r x w G undef w'):bO_ E o α κ r x w G:=by unfold bO_;rw [h];exact k
section
variable (hM:Mem E x w G)
include hM
theorem qM_ {T td a v}(ht:TDok E T td)(ho:o.op = .store T a v){q off} (hp:RT E w x G (.pb q off) (α a)) {p:AV} (hv:RT E w x G p (α v)) (hu:Used x p.refsT) (hl:p.cells.length=td.size) (V:p.cells.all AV.one=true)
  {bs} (hq:x.h q=some (.box bs)) (u:off+p.cells.length<=bs.length) (hk:κ (x.blk q (some (.box (setRange bs off p.cells)))) (.tu [])=some r):bO_ E o α κ r x w G:=by
 obtain ⟨us,e,B⟩:=hv.cells V;obtain ⟨⟨cur,T',J,U⟩,hφ,O⟩:=hM.root q _ hq;have Z:=(hp.rf (by intro cs e;cases e) (by intro cs e;cases e) (by intro f cs e;cases e)).2 bs hq;have I:us.length=p.cells.length:=B.len;have hcl:cur.length=bs.length:=U.len;refine bO_.skip (gB_ ht ho Z e (I.trans hl) (B.one V) J (by simp [I,hcl];exact u)) ?_;simp only;have hg:∀ b,b≠G.g q->(w.setRow (G.g q) (cur.take off++us++cur.drop (off+us.length)).toArray).heap[b]?=w.heap[b]?:=fun b hb=>setRow_other w _ _ _ hb;have m:∀ r' blk,(x.blk q (some (.box (setRange bs off p.cells)))).h r'=some blk->r'≠q->x.h r'=some blk:=fun r' blk h e=>by simpa only [X.blk,bg_ _ _ _ e] using h
 have ev:Evo x w G (x.blk q (some (.box (setRange bs off p.cells)))) (w.setRow (G.g q) (cur.take off++us++cur.drop (off+us.length)).toArray) G:=by
  refine ⟨rfl,rfl,rfl,by simp,fun b hb hF => ?_,fun b hb hF => ?_,fun _ h=>h,fun r' blk' Y k => ?_,fun r' b Y k=>⟨rfl,fun hb _=>hg b fun e => ?_⟩⟩
  . refine hg b fun e=>hF ?_
    subst e;exact ⟨q,_,hq,by rw [hφ];simp⟩
  . obtain ⟨r',blk,e1,e2⟩:=hF
    by_cases e:r'=q
    . subst e;exact ⟨_,_,hq,e2⟩
    . exact ⟨r',blk,m _ _ e1 e,e2⟩
  . by_cases e:r'=q
    . subst e
      have:blk' = .box (setRange bs off p.cells):=by simpa only [X.blk,bd_,Option.some.injEq,eq_comm] using k
      subst this;exact ⟨_,hq,.box (iA_ bs off _ u).symm,rfl,rfl,fun _ _ _ _ _ _ _ h=>by cases h⟩
    . exact ⟨blk',m _ _ k e,Same.refl _,rfl,rfl,fun _ _ _ _ _ _ _ _ _=>rfl⟩
  . subst e
    by_cases e:r'=q
    . subst e;simp [X.blk,bd_] at k
    . exact e (hM.sep r' q _ _ _ (m _ _ k e) hq hb (by rw [hφ];simp))
 refine ⟨_,G,.tu [],hk,ev,?_,.tu [] [] trivial,cx_⟩;refine hM.build ev (fun b=>b=G.g q) (fun b hb hc=>hg b hc) (fun r' blk k => ?_) (fun r1 r2 b1 b2 b k1 k2 k3 k4 => ?_)
 . by_cases e:r'=q
   . subst e
     have:blk = .box (setRange bs off p.cells):=by simpa only [X.blk,bd_,Option.some.injEq,eq_comm] using k
     subst this;refine .inr ⟨⟨⟨cur.take off++us++cur.drop (off+us.length),T',setRow_heap w _ _ _ _ _ J,?_⟩,hφ,?_⟩,hM.used _ _ hq,fun b=>⟨hM.one _ _ b hq,fun hb => ?_⟩⟩
     . exact (U.evolve ev O).setRange off (B.evolve ev (kI_ hu V)) u
     . intro z hz
       obtain ⟨c,hc1,S⟩:=List.mem_flatMap.1 hz;rcases iz_ _ _ _ _ hc1 with h|h
       . exact ev.used z (O z (List.mem_flatMap.2 ⟨c,h,S⟩))
       . exact ev.used z (kI_ hu V z (List.mem_flatMap.2 ⟨c,h,S⟩))
     . have:=hM.low _ _ b hq hb;simpa using this
   . refine .inl ⟨m _ _ k e,rfl,rfl,rfl,fun _=>rfl,fun b hb hc=>e ?_⟩
     subst hc;exact hM.sep r' q _ _ _ (m _ _ k e) hq hb (by rw [hφ];simp)
 . have f:∀ r' blk,(x.blk q (some (.box (setRange bs off p.cells)))).h r'=some blk->∃ blk',x.h r'=some blk':=fun r' blk h=>by
    by_cases e:r'=q
    . subst e;exact ⟨_,hq⟩
    . exact ⟨_,m _ _ h e⟩
   obtain ⟨b1',e1⟩:=f _ _ k1;obtain ⟨b2',e2⟩:=f _ _ k2;exact hM.sep _ _ _ _ b e1 e2 k3 k4
end
theorem Mem.turn (hM:Mem E x w G){x1:X}(I:Sub x1 x){q m t st xs} (hq:x1.h q=some (.arr m t st xs)) {m' st' xs' vals φ} (S:xs.length=xs'.length) (Y:st<=st') (z:st=st'->xs=xs'/\vals=G.vals q)
  (ho:w'.os=w.os) (V:w'.tape=w.tape) (Z:w'.output=w.output) (O:w'.heap.size=w.heap.size) (T:∀ b,cG_ (G.sv q) b=0->w'.heap[b]?=w.heap[b]?)
  (hφ:∀ b,φ b≠0->Fof x G b/\∀ r' blk,x1.h r'=some blk->r'≠q->G.φ r' b=0) (h1:∀ b,φ b<=1)
  (J:Evo x w G (x1.blk q (some (.arr m' t st' xs'))) w' (G.put q (G.sv q) vals φ (G.g q))->jz_ E (x1.blk q (some (.arr m' t st' xs'))) w' (G.put q (G.sv q) vals φ (G.g q)) q (.arr m' t st' xs')) :
  Evo x w G (x1.blk q (some (.arr m' t st' xs'))) w' (G.put q (G.sv q) vals φ (G.g q))/\Mem E (x1.blk q (some (.arr m' t st' xs'))) w' (G.put q (G.sv q) vals φ (G.g q)):=by
 have u:=I.1 q _ hq;obtain ⟨hm,how,ψ,hrl,hφq⟩:=hM.root q _ u;have p:∀ r' blk,(x1.blk q (some (.arr m' t st' xs'))).h r'=some blk->r'≠q->x1.h r'=some blk:=fun r' blk h e=>by simpa only [X.blk,bg_ _ _ _ e] using h
 have B:∀ b,cG_ (G.sv q) b≠0->G.φ q b≠0:=fun b hb=>by rw [hφq];omega
 have ev:Evo x w G (x1.blk q (some (.arr m' t st' xs'))) w' (G.put q (G.sv q) vals φ (G.g q)):=by
  refine ⟨ho,V,Z,Nat.le_of_eq O.symm,fun b hb hF=>T b ?_,fun b hb hF => ?_,fun r' h=>by simpa only [X.blk,I.2] using h,fun r' blk' U k => ?_,fun r' b U k => ?_⟩
  . exact Classical.byContradiction fun h0=>hF ⟨q,_,u,B b h0⟩
  . obtain ⟨r',blk,e1,e2⟩:=hF
    by_cases e:r'=q
    . subst e
      simp only [ao_.put,if_true] at e2;exact (hφ b e2).1
    . simp only [ao_.put,if_neg e] at e2
      exact ⟨r',blk,I.1 _ _ (p _ _ e1 e),e2⟩
  . by_cases e:r'=q
    . subst e
      have:blk' = .arr m' t st' xs':=by simpa only [X.blk,bd_,Option.some.injEq,eq_comm] using k
      subst this;refine ⟨_,u,.arr S Y (fun e=>(z e).1),by simp only [ao_.put,if_true],by simp only [ao_.put,if_true],fun _ _ _ _ _ _ _ h h' => ?_⟩;simp only [ao_.put,if_true];cases h;cases h';exact (z rfl).2
    . exact ⟨blk',I.1 _ _ (p _ _ k e),Same.refl _,by simp only [ao_.put,if_neg e],by simp only [ao_.put,if_neg e],fun _ _ _ _ _ _ _ _ _=>by simp only [ao_.put,if_neg e]⟩
  . by_cases e:r'=q
    . subst e;simp [X.blk,bd_] at k
    . refine ⟨by simp only [ao_.put,if_neg e],fun hb _=>T b ?_⟩
      exact Classical.byContradiction fun h0=>e (hM.sep r' q _ _ b (I.1 _ _ (p _ _ k e)) u hb (B b h0))
 refine ⟨ev,hM.build ev (fun b=>cG_ (G.sv q) b≠0) (fun b hb hc=>T b (Classical.byContradiction hc)) (fun r' blk k => ?_) (fun r1 r2 b1 b2 b k1 k2 k3 k4 => ?_)⟩
 . by_cases e:r'=q
   . subst e
     have:blk = .arr m' t st' xs':=by simpa only [X.blk,bd_,Option.some.injEq,eq_comm] using k
     subst this;refine .inr ⟨J ev,ev.used _ (hM.used _ _ u),fun b => ?_⟩;simp only [ao_.put,if_true];refine ⟨h1 b,fun hb => ?_⟩;obtain ⟨r3,b3,e1,e2⟩:=(hφ b hb).1;rw [O];exact hM.low _ _ b e1 e2
   . refine .inl ⟨I.1 _ _ (p _ _ k e),by simp only [ao_.put,if_neg e],by simp only [ao_.put,if_neg e],by simp only [ao_.put,if_neg e],fun b=>by simp only [ao_.put,if_neg e],fun b hb hc=>e ?_⟩
     exact hM.sep r' q _ _ _ (I.1 _ _ (p _ _ k e)) u hb (B b hc)
 . by_cases e:r1=q
   . by_cases e':r2=q
     . rw [e,e']
     . subst e
       simp only [ao_.put,if_true] at k3;simp only [ao_.put,if_neg e'] at k4;exact absurd ((hφ b k3).2 r2 _ (p _ _ k2 e') e') k4
   . by_cases e':r2=q
     . subst e'
       simp only [ao_.put,if_true] at k4;simp only [ao_.put,if_neg e] at k3;exact absurd ((hφ b k4).2 r1 _ (p _ _ k1 e) e) k3
     . simp only [ao_.put,if_neg e] at k3
       simp only [ao_.put,if_neg e'] at k4;exact hM.sep _ _ _ _ b (I.1 _ _ (p _ _ k1 e)) (I.1 _ _ (p _ _ k2 e')) k3 k4
end
section
theorem sR_ {α:Type}(A us:List α)(k n:Nat)(h:k+us.length<=n)(hn:n<=A.length):(A.take k++us++A.drop (k+us.length)).take n=(A.take n).take k++us++(A.take n).drop (k+us.length):=by rw [List.append_assoc,List.take_append,List.take_append];rw [List.take_take,List.take_take,List.length_take];rw [Nat.min_eq_left (show k<=A.length by omega),Nat.min_eq_right (show k<=n by omega),Nat.min_eq_left (show k<=n by omega)];rw [List.take_of_length_le (show us.length<=n - k by omega),List.drop_take];rw [List.append_assoc,show n - k - us.length=n - (k+us.length) by omega]
theorem AV.sim_view (m:M)(a c:AV):AV.sim m a.asView c=AV.sim m a c:=by cases a<;>rfl
theorem qk_ (m:M):∀ (l c:List AV),sims m (l.map AV.asView) c=sims m l c
 |[],[]=>rfl
 |[],_::_=>rfl
 |_::_,[]=>rfl
 |a::l,c::r=>by simp only [List.map_cons,sims,AV.sim_view,qk_ m l r]
variable [aj_]
open aj_
variable {ω:Type}
variable {E:Env} {x:X} {w w':World} {G:ao_} {κ:X->AV->Option ω} {r:ω} {o:Oper} {α:Operand->Value}
theorem hY_ [ai_](m:M)(t:TC) (xs:List (El t)) (i:Nat) (hi:i<xs.length) (y:El t):aT_ m t (xs.set i y)=aT_ m t (xs.take i)++enc m t y++aT_ m t (xs.drop (i+1)):=by rw [List.set_eq_take_append_cons_drop,if_pos hi,cI_];simp [aT_]
theorem okD_coded [ai_](t:TC)(y:El t):(enc .d t y).all AV.okD=true:=by rw [List.all_eq_true];intro a ha;rcases ai_.cell _ _ _ a ha with ⟨_,_,rfl⟩|⟨_,rfl⟩|⟨_,rfl⟩|⟨_,_,rfl⟩<;>rfl
omit [aj_] in
theorem M.meet_ne {m:M}(h:m ≠ .v)(ok:Bool):m.meet ok ≠ .v:=by cases m<;>cases ok<;>first|exact absurd rfl h|(intro h;cases h)
omit [aj_] in
theorem M.meet_sub {m:M}(h:m ≠ .v)(ok:Bool):(m = .d/\ok=true/\m.meet ok = .d)\/(m.meet ok).sub = .v:=by cases m<;>cases ok<;>first|exact absurd rfl h|exact .inl ⟨rfl,rfl,rfl⟩|exact .inr rfl
omit [aj_] in
theorem ro_ {w:World}{g:Nat}{cur:Array Value}{t:TypeId} (h:w.heap[g]?=some (.cells cur t (0,0))):w.setRow g cur=w:=by
 have:(w.setRow g cur).heap=w.heap:=by
  apply Array.ext_getElem?;intro b;by_cases e:b=g
  . subst e;rw [setRow_heap w _ _ _ _ _ h,h]
  . exact setRow_other w _ _ _ e
 cases w;simp only [World.setRow] at this ⊢;rw [this]
theorem go_self [ai_](hM:Mem E x w G){T td a v}(ht:TDok E T td)(ho:o.op = .store T a v){q i off} (hp:RT E w x G (.pe q i off) (α a)) {st t' ys} (hv:RT E w x G (.ns q st i off t' ys) (α v)) (hl:(AV.ns q st i off t' ys).cells.length=td.size)
  {m t xs} (hq:x.h q=some (.arr m t st xs)) (hk:κ x (.tu [])=some r):bO_ E o α κ r x w G:=by
 have hf:=hp.rf (by intro cs e;cases e) (by intro cs e;cases e) (by intro f cs e;cases e);obtain ⟨hlt,g,n,c,Z,Y⟩:=hf.2 _ _ _ _ (.arr hq);have hg:=hv.rf (by intro cs e;cases e) (by intro cs e;cases e) (by intro f cs e;cases e);obtain ⟨-,hg2⟩:=hg.2.1 _ _ _ _ hq;obtain ⟨-,hen,k⟩:=hg2 rfl;obtain ⟨hm,how,ψ,hrl,hφ⟩:=hM.root q _ hq;obtain ⟨cur,hn,z,S,hcm,hcs,B⟩:∃ cur,n=xs.length/\w.heap[g]?=some (.cells cur (E.eid t) (0,0))/\xs.length<=c/\c<=maxLen/\cur.size=c*t.width/\cur.toList.take (xs.length*t.width)=G.vals q:=by
  rcases how.2 with ⟨e1,e2⟩|⟨g',cap,cur,e1,_,e3,e4,e5,e6,e7⟩
  . omega
  . rw [Z] at e1
    cases e1;exact ⟨cur,rfl,e3,e4,e5,e6,e7⟩
 have hoff:off<t.width:=by
  have:=(List.getElem?_eq_some_iff.1 hen).1
  rwa [ai_.len] at this
 have hwid:(i+1)*t.width<=xs.length*t.width:=Nat.mul_le_mul_right _ hlt;have V:xs.length*t.width<=c*t.width:=Nat.mul_le_mul_right _ S;have U:(i+1)*t.width=i*t.width+t.width:=by rw [Nat.add_mul,Nat.one_mul]
 have hc1:(α v).cells=List.toArray [α v]:=by have:=hg.1;cases hh:α v<;>simp_all [Value.cells,Value.oneCell']
 have hcl:cur.toList.length=c*t.width:=by simpa using hcs
 have J:([α v]:List Value).length=td.size:=hl;have p:=gB_ ht ho Y hc1 J (by intro u hu;rw [List.mem_singleton.1 hu];exact hg.1) z (by simp;omega);have O:cur.toList[i*t.width+off]?=some (α v):=by rw [<-B,List.getElem?_take_of_lt (by omega)] at k;exact k
 have I:(cur.toList.take (i*t.width+off)++[α v]++cur.toList.drop (i*t.width+off+([α v]:List Value).length)).toArray=cur:=by
  apply Array.toList_inj.1;have hi':=(List.getElem?_eq_some_iff.1 O)
  obtain ⟨h1,h2⟩:=hi';simp only [List.length_singleton,List.append_assoc];rw [<-h2,List.singleton_append,<-List.drop_eq_getElem_cons h1,List.take_append_drop]
 rw [I,ro_ z] at p;exact bO_.skip p ⟨x,G,.tu [],hk,Evo.refl _ _ _,hM,.tu [] [] trivial,cx_⟩
section
variable (hM:Mem E x w G)
include hM
theorem qN_ [ai_]{T td a v}(ht:TDok E T td)(ho:o.op = .store T a v){q i off} (hp:RT E w x G (.pe q i off) (α a)) {p:AV} (hv:RT E w x G p (α v)) (hl:p.cells.length=td.size) (h1:p.cells.all AV.one=true)
  {x1 cs ok} (hi:bA_ x p.cells=some (x1,cs,ok)) {m t st xs} (hq:x1.h q=some (.arr m t st xs)) (hfit:off+cs.length<=t.width) {y} (hd:dec t (setRange (enc .v t (xs.getD i (El.dflt t))) off cs)=some y)
  (hk:κ (x1.blk q (some (.arr (m.meet ok) t (st+1) (xs.set i y)))) (.tu [])=some r):bO_ E o α κ r x w G:=by
 obtain ⟨us,e,U⟩:=hv.cells h1;obtain ⟨s1,φi,k1,k2,k3,k4,k5⟩:=iH_ hM (Sub.refl x) p.cells x (Sub.refl x) us x1 cs ok U hi;have k:=s1.1 q _ hq;have hf:=hp.rf (by intro cs e;cases e) (by intro cs e;cases e) (by intro f cs e;cases e);obtain ⟨Y,g,n,c,hsv,hva⟩:=hf.2 _ _ _ _ (.arr k);obtain ⟨hm,how,ψ,hrl,hφ⟩:=hM.root q _ k;obtain ⟨cur,hn,hcur,hcap,hcm,hcs,htake⟩:∃ cur,n=xs.length/\w.heap[g]?=some (.cells cur (E.eid t) (0,0))/\xs.length<=c/\c<=maxLen/\cur.size=c*t.width/\cur.toList.take (xs.length*t.width)=G.vals q:=by
  rcases how.2 with ⟨e1,e2⟩|⟨g',cap,cur,e1,_,e3,e4,e5,e6,e7⟩
  . omega
  . rw [hsv] at e1
    cases e1;exact ⟨cur,rfl,e3,e4,e5,e6,e7⟩
 obtain ⟨us0,vs0,ws0,φ₁,φ₂,φ₃,I,hl1,hl2,j1,j2,j3,hψ⟩:=hrl.row Y;have hlus:us.length=cs.length:=k1.length.symm;have hlen:us.length=td.size:=U.len.trans hl;have hwid:(i+1)*t.width<=xs.length*t.width:=Nat.mul_le_mul_right _ Y;have hwid2:xs.length*t.width<=c*t.width:=Nat.mul_le_mul_right _ hcap;have hwid3:(i+1)*t.width=i*t.width+t.width:=by rw [Nat.add_mul,Nat.one_mul]
 have hg1:cG_ (G.sv q) g=1:=by rw [hsv];simp [cG_]
 have hgF:G.φ q g≠0:=by rw [hφ,hg1];omega
 have hone:=hM.one q _ g k;have hψg:ψ g=0:=by rw [hφ,hg1] at hone;omega
 have hφig:φi g=0:=Classical.byContradiction fun h=>k4 g h ⟨q,_,hq,hgF⟩;refine bO_.skip (gB_ ht ho hva e hlen (U.one h1) hcur (by omega)) ?_;have hcl:cur.toList.length=c*t.width:=by simpa using hcs
 have hv':((cur.toList.take (i*t.width+off)++us++cur.toList.drop (i*t.width+off+us.length)).take (xs.length*t.width))=us0++(vs0.take off++us++vs0.drop (off+us.length))++ws0:=by
  rw [sR_ _ _ _ _ (by omega) (by omega),htake,I];have a1:(us0++vs0++ws0).take (i*t.width+off)=us0++vs0.take off:=by rw [List.append_assoc,List.take_append,List.take_of_length_le (by omega),hl1,show i*t.width+off - i*t.width=off by omega,List.take_append,show off - vs0.length=0 by omega];simp
  have a2:(us0++vs0++ws0).drop (i*t.width+off+us.length)=vs0.drop (off+us.length)++ws0:=by rw [List.append_assoc,List.drop_append,List.drop_eq_nil_of_le (by omega),hl1,List.nil_append,List.drop_append,show i*t.width+off+us.length - i*t.width=off+us.length by omega,show off+us.length - vs0.length=0 by omega];simp
  rw [a1,a2];simp [List.append_assoc]
 have hw0:(enc .v t (xs.getD i (El.dflt t))).length=t.width:=ai_.len _ _ _;have hwm:(enc m.sub t (xs.getD i (El.dflt t))).length=t.width:=ai_.len _ _ _;obtain ⟨vA,vR,ψA,ψR,eA,mA,mR,sA⟩:=RL.split (l:=(enc m.sub t (xs.getD i (El.dflt t))).take off) (l':=(enc m.sub t (xs.getD i (El.dflt t))).drop off) (by rw [List.take_append_drop];exact j2);have mR':RL E w (Fof x G) (((enc m.sub t (xs.getD i (El.dflt t))).drop off).take cs.length++((enc m.sub t (xs.getD i (El.dflt t))).drop off).drop cs.length) vR ψR:=by rw [List.take_append_drop];exact mR
 obtain ⟨vB,vC,ψB,ψC,eC,mB,mC,sC⟩:=RL.split mR';have lA:vA.length=off:=by rw [<-mA.length,List.length_take];omega
 have lB:vB.length=us.length:=by rw [<-mB.length,List.length_take,List.length_drop];omega
 have eV:vs0.take off++us++vs0.drop (off+us.length)=vA++us++vC:=by subst eC;subst eA;rw [<-lA,List.take_left,<-lB,List.drop_length_add_append,List.drop_left]
 have hmid:RL E w (Fof x G) ((enc m.sub t (xs.getD i (El.dflt t))).take off++cs++((enc m.sub t (xs.getD i (El.dflt t))).drop off).drop cs.length) (vA++us++vC) (fun b=>ψA b+φi b+ψC b) :=
  (mA.append k1 (fun b=>rfl)).append mC (fun b=>rfl)
 have J:∀ m',sims m' ((enc m.sub t (xs.getD i (El.dflt t))).take off++cs++((enc m.sub t (xs.getD i (El.dflt t))).drop off).drop cs.length) (enc m' t y):=by
  intro m';have h5:=ai_.dec m' t _ y hd;rw [mG_ _ _ _ (by omega)] at h5;rw [<-qk_] at h5 ⊢;have e6:(enc .v t (xs.getD i (El.dflt t))).map AV.asView=(enc m.sub t (xs.getD i (El.dflt t))).map AV.asView:=by rw [ai_.view,ai_.view]
  simp only [List.map_append,List.map_take,List.map_drop,List.drop_drop] at h5 ⊢;rw [e6] at h5;exact h5
 have Z:∀ b,b≠g->(w.setRow g (cur.toList.take (i*t.width+off)++us++cur.toList.drop (i*t.width+off+us.length)).toArray).heap[b]?=w.heap[b]?:=fun b hb=>setRow_other w _ _ _ hb;generalize hA:(cur.toList.take (i*t.width+off)++us++cur.toList.drop (i*t.width+off+us.length)).toArray=A at Z hv' ⊢;have hA':A.toList.take (xs.length*t.width)=us0++(vA++us++vC)++ws0:=by rw [<-hA,<-eV];exact hv'
 have hAs:A.size=c*t.width:=by rw [<-hA];simp;omega
 have hvl:=how.1;rw [I] at hvl;have hnl:(us0++(vA++us++vC)++ws0).length=xs.length*t.width:=by
  have e1:(vA++us++vC).length=vs0.length:=by have:=congrArg List.length eC;have:=congrArg List.length eA;simp only [List.length_append] at *;omega
  simp only [List.length_append] at hvl e1 ⊢;omega
 have hown':(w.setRow g A).ownsRow 0 (E.eid t) t.width (G.sv q) (xs.set i y).length (us0++(vA++us++vC)++ws0):=by refine ⟨by rw [List.length_set];exact hnl,.inr ⟨g,c,A,by rw [List.length_set,hsv,hn],Nat.zero_le _,setRow_heap w _ _ _ _ _ hcur,by rw [List.length_set];exact hcap,hcm,hAs,by rw [List.length_set];exact hA'⟩⟩
 have hown1:∀ b,cG_ (G.sv q) b=0->b≠g:=fun b hb e=>by rw [e,hg1] at hb;omega
 have hqF:∀ b,ψ b≠0->cG_ (G.sv q) b=0:=fun b hb=>by have:=hM.one q _ b k;rw [hφ] at this;omega
 have hsep:∀ b r' blk,G.φ q b≠0->x1.h r'=some blk->r'≠q->G.φ r' b=0:=fun b r' blk hb hr V=>Classical.byContradiction fun h0=>V (hM.sep r' q _ _ b (s1.1 _ _ hr) k h0 hb);have B:∀ ψ',(∀ b,ψ' b<=φ₁ b+(ψA b+φi b+ψC b)+φ₃ b)->(∀ ev:Evo x w G (x1.blk q (some (.arr (m.meet ok) t (st+1) (xs.set i y)))) (w.setRow g A) (G.put q (G.sv q) (us0++(vA++us++vC)++ws0) (fun b=>cG_ (G.sv q) b+ψ' b) (G.g q)),
   RL E (w.setRow g A) (Fof (x1.blk q (some (.arr (m.meet ok) t (st+1) (xs.set i y)))) (G.put q (G.sv q) (us0++(vA++us++vC)++ws0) (fun b=>cG_ (G.sv q) b+ψ' b) (G.g q))) (aT_ (m.meet ok).sub t (xs.set i y)) (us0++(vA++us++vC)++ws0) ψ')->Goes E κ r x w G undef (w.setRow g A):=by
  intro ψ' hle hrl';have hψ2:∀ b,ψ' b≠0->ψ b≠0\/φi b≠0:=fun b hb=>by have h1:=hle b;have h2:=hψ b;have h3:=sA b;have h4:=sC b;omega
  have ev:=hM.turn s1 hq (w':=w.setRow g A) (m':=m.meet ok) (st':=st+1) (xs':=xs.set i y) (vals:=us0++(vA++us++vC)++ws0) (φ:=fun b=>cG_ (G.sv q) b+ψ' b) (by simp) (by omega) (fun h=>by omega) rfl rfl rfl (by simp)
   (fun b hb=>Z b (hown1 b hb)) (fun b hb => ?_) (fun b => ?_) (fun ev => ?_)
  . exact ⟨_,_,.tu [],hk,ev.1,ev.2,.tu [] [] trivial,cx_⟩
  . have hb:cG_ (G.sv q) b+ψ' b≠0:=hb
    by_cases h0:φi b=0
    . have h6:G.φ q b≠0:=by
       rw [hφ];by_cases h7:ψ' b=0
       . omega
       . have:=hψ2 b h7;omega
      exact ⟨⟨q,_,k,h6⟩,fun r' blk hr V=>hsep b r' blk h6 hr V⟩
    . obtain ⟨q',blk',e1,_,e3⟩:=k5 b h0
      exact ⟨⟨q',blk',e1,e3⟩,fun r' blk hr V=>Classical.byContradiction fun h8=>k4 b h0 ⟨r',blk,hr,h8⟩⟩
  . show cG_ (G.sv q) b+ψ' b<=1
    have h2:=hM.one q _ b k;rw [hφ] at h2;have h3:=hle b;have h4:=hψ b;have h5:=sA b;have h6:=sC b;have h7:=k3 b;by_cases h0:φi b=0
    . omega
    . have:G.φ q b=0:=Classical.byContradiction fun h8=>k4 b h0 ⟨q,_,hq,h8⟩
      rw [hφ] at this;omega
  . refine ⟨M.meet_ne hm ok,?_,ψ',?_,fun b => ?_⟩
    . simp only [ao_.put,if_true];exact hown'
    . have:=hrl' ev
      simp only [ao_.put,if_true];simp only [ao_.put] at this;exact this
    . simp only [ao_.put,if_true]
 rcases M.meet_sub hm ok with ⟨rfl,rfl,hmm⟩|hmv
 ·
  refine B (fun b=>φ₁ b+(ψA b+φi b+ψC b)+φ₃ b) (fun b=>Nat.le_refl _) fun ev => ?_;have hy:RL E w (Fof x G) (enc .d t y) (vA++us++vC) (fun b=>ψA b+φi b+ψC b):=by
   refine hmid.sim_d (J .d) ?_;simp only [List.all_append,Bool.and_eq_true];have u:=okD_coded t (xs.getD i (El.dflt t));rw [List.all_eq_true] at u;refine ⟨⟨?_,k2 rfl⟩,?_⟩
   . rw [List.all_eq_true];exact fun a ha=>u a (List.mem_of_mem_take ha)
   . rw [List.all_eq_true];exact fun a ha=>u a (List.mem_of_mem_drop (List.mem_of_mem_drop ha))
  have z:RL E w (Fof x G) (aT_ .d t (xs.set i y)) (us0++(vA++us++vC)++ws0) (fun b=>φ₁ b+(ψA b+φi b+ψC b)+φ₃ b):=by rw [hY_ .d t xs i Y y];exact (j1.append hy (fun b=>rfl)).append j3 (fun b=>rfl)
  rw [hmm];refine z.evolve (by rw [hmm] at ev;exact ev) fun b hb=>⟨Z b ?_,q,_,bd_ _ _ _,?_⟩
  . intro e6
    subst e6;have h4:=hψ b;have h5:=sA b;have h6:=sC b;omega
  . simp only [ao_.put,if_true];omega
 . refine B (fun _=>0) (fun b=>Nat.zero_le _) fun ev => ?_
   rw [hmv];have hF'q:∀ b,Fof (x1.blk q (some (.arr (m.meet ok) t (st+1) (xs.set i y)))) (G.put q (G.sv q) (us0++(vA++us++vC)++ws0) (fun b=>cG_ (G.sv q) b+0) (G.g q)) b->cG_ (G.sv q) b≠0\/∃ r' blk,r'≠q/\x1.h r'=some blk/\G.φ r' b≠0:=by
    intro b ⟨r',blk,e1,e2⟩;by_cases e:r'=q
    . subst e
      simp only [ao_.put,if_true,Nat.add_zero] at e2;exact .inl e2
    . simp only [ao_.put,if_neg e] at e2
      exact .inr ⟨r',blk,e,by simpa only [X.blk,bg_ _ _ _ e] using e1,e2⟩
   have hF'g:Fof (x1.blk q (some (.arr (m.meet ok) t (st+1) (xs.set i y)))) (G.put q (G.sv q) (us0++(vA++us++vC)++ws0) (fun b=>cG_ (G.sv q) b+0) (G.g q)) g:=⟨q,_,bd_ _ _ _,by simp only [ao_.put,if_true];omega⟩
   have O:∀ b,ψ b≠0->¬ Fof (x1.blk q (some (.arr (m.meet ok) t (st+1) (xs.set i y)))) (G.put q (G.sv q) (us0++(vA++us++vC)++ws0) (fun b=>cG_ (G.sv q) b+0) (G.g q)) b:=by
    intro b hb hF;rcases hF'q b hF with h|⟨r',blk,e1,e2,e3⟩
    . exact h (hqF b hb)
    . exact e3 (hsep b r' blk (by rw [hφ];omega) e2 e1)
   have hnew:∀ b,φi b≠0->¬ Fof (x1.blk q (some (.arr (m.meet ok) t (st+1) (xs.set i y)))) (G.put q (G.sv q) (us0++(vA++us++vC)++ws0) (fun b=>cG_ (G.sv q) b+0) (G.g q)) b:=by
    intro b hb hF;rcases hF'q b hF with h|⟨r',blk,e1,e2,e3⟩
    . exact k4 b hb ⟨q,_,hq,by rw [hφ];omega⟩
    . exact k4 b hb ⟨r',blk,e2,e3⟩
   have S:∀ b,b<w.heap.size->¬ Fof x G b->¬ Fof (x1.blk q (some (.arr (m.meet ok) t (st+1) (xs.set i y)))) (G.put q (G.sv q) (us0++(vA++us++vC)++ws0) (fun b=>cG_ (G.sv q) b+0) (G.g q)) b:=fun b hb hF hF'=>hF (ev.fresh b hb hF');have r1:=j1.seen (fun b hb=>O b (by have:=hψ b;omega)) S;have r3:=j3.seen (fun b hb=>O b (by have:=hψ b;omega)) S;have r2:=hmid.sim_v (J .v) (fun b hb=>by
    have h5:=hψ b;have h6:=sA b;have h7:=sC b;by_cases h0:φi b=0
    . exact O b (by omega)
    . exact hnew b h0) S
   rw [fd_] at r1 r3;have z:=(r1.append r2 (ψ:=fun _=>0) (fun b=>rfl)).append r3 (ψ:=fun _=>0) (fun b=>rfl);rw [<-hY_ .v t xs i Y y] at z;exact z.frame (by simp) (fun b hb=>absurd rfl hb) fun b hb hF=>⟨Z b fun e6=>hF (e6 ▸ hF'g),hF⟩
end
end
section
variable [aj_]
open aj_
variable {ω:Type}
variable {E:Env} {x:X} {w w':World} {G:ao_} {κ:X->AV->Option ω} {r:ω} {o:Oper} {α:Operand->Value}
omit [aj_] in
theorem oo_:∀ (cs:List AV)(x1 x2:X)(cs':List AV)(ok:Bool),bA_ x1 cs=some (x2,cs',ok)->cs.all AV.one=true
 |[],_,_,_,_,_=>rfl
 |c::cs,x1,x2,cs',ok,h=>by
  have k:∀ {x1:X}{f:X->List AV->Bool->X×List AV×Bool},(match bA_ x1 cs with|some (x',l',ok)=>some (f x' l' ok)|none=>none)=some (x2,cs',ok)->cs.all AV.one=true:=by
   intro x1 f h;cases hi:bA_ x1 cs with
   |none=>rw [hi] at h;cases h
   |some p=>exact oo_ cs x1 p.1 p.2.1 p.2.2 hi
  rw [List.all_cons,Bool.and_eq_true];cases c<;>simp only [bA_] at h<;>(try (cases h;done))
  case i=>exact ⟨rfl,k h⟩
  case b=>exact ⟨rfl,k h⟩
  case s=>exact ⟨rfl,k h⟩
  case nils=>exact ⟨rfl,k h⟩
  case sl m t xs=>
   cases m<;>simp only at h<;>(try (cases h;done));exact ⟨rfl,k (f:=fun x' l' _=>(x',.sl .v t xs::l',false)) h⟩
  case rt q=>
   refine ⟨rfl,?_⟩;cases hq:x1.h q with
   |none=>rw [hq] at h;cases h
   |some blk=>
    rw [hq] at h;cases blk with
    |box=>cases h
    |ext=>cases h
    |arr m t st xs=>exact k h
omit [aj_] in
theorem hS_ {m:M}:∀ {l c l' c':List AV},sims m l c->sims m l' c'->sims m (l++l') (c++c')
 |[],[],_,_,_,h=>h
 |a::l,b::c,_,_,h,h'=>⟨h.1,hS_ h.2 h'⟩
 |[],_::_,_,_,h,_=>h.elim
 |_::_,[],_,_,h,_=>h.elim
omit [aj_] in
theorem fZ_ {m:M}:∀ {l c:List AV},sims m l c->l.length=c.length
 |[],[],_=>rfl
 |a::l,b::c,h=>by simp [fZ_ h.2]
 |[],_::_,h=>h.elim
 |_::_,[],h=>h.elim
theorem oa_ [ai_](hM:Mem E x w G)(t:TC):∀ (vs:List AV)(Vs:List Value)(x1:X),Sub x1 x->AllF (RT E w x G) vs Vs->∀ x2 ys ok,gV_ t x1 vs=some (x2,ys,ok) ->
  Sub x2 x1/\∃ L φ,RL E w (Fof x G) L (Vs.flatMap fun v=>v.cells.toList) φ/\(ok=true->L.all AV.okD=true)/\(∀ b,φ b<=1)/\(∀ b,φ b≠0->¬ Fof x2 G b) /\
   (∀ b,φ b≠0->∃ q blk,x1.h q=some blk/\x2.h q=none/\G.φ q b≠0)/\(∀ m,sims m L (aT_ m t ys))/\(∀ V ∈ Vs,V.cells.size=t.width)/\ys.length=vs.length
 |[],[],x1,O,_,x2,ys,ok,h=>by simp only [gV_,Option.some.injEq,Prod.mk.injEq] at h;obtain ⟨rfl,rfl,rfl⟩:=h;exact ⟨Sub.refl _,[],fun _=>0,.nil _ fun _=>rfl,fun _=>rfl,fun _=>Nat.zero_le _,(fun b hb=>absurd rfl hb),(fun b hb=>absurd rfl hb),(fun _=>trivial),(fun V Z=>absurd Z (List.not_mem_nil)),rfl⟩
 |v::vs,V::Vs,x1,O,⟨Y,I⟩,x2,ys,ok,h=>by
  simp only [gV_] at h;cases hi:bA_ x1 v.cells with
  |none=>rw [hi] at h;cases h
  |some p=>
   obtain ⟨x3,cs,ok1⟩:=p;rw [hi] at h;simp only at h;cases hd:dec t cs with
   |none=>rw [hd] at h;cases h
   |some y=>
    rw [hd] at h;simp only at h;cases hr:gV_ t x3 vs with
    |none=>rw [hr] at h;cases h
    |some p=>
     obtain ⟨x4,ys',ok2⟩:=p;rw [hr] at h;simp only [Option.some.injEq,Prod.mk.injEq] at h;obtain ⟨rfl,rfl,rfl⟩:=h;obtain ⟨us,eus,k⟩:=Y.cells (oo_ _ _ _ _ _ hi);obtain ⟨s1,φ,k1,k2,k3,k4,k5⟩:=iH_ hM (Sub.refl x) v.cells x1 O us _ _ _ k hi;obtain ⟨s2,L,ψ,j1,j2,j3,j4,j5,j6,j7,j8⟩:=oa_ hM t vs Vs x3 (s1.trans O) I _ _ _ hr;have z:∀ q blk,x1.h q=some blk->x3.h q=none->x4.h q=none:=fun q blk S B=>by
      cases e:x4.h q with
      |none=>rfl
      |some b=>rw [s2.1 q b e] at B;cases B
     refine ⟨s2.trans s1,cs++L,fun b=>φ b+ψ b,?_,?_,?_,?_,?_,?_,?_,by simp [j8]⟩
     . rw [List.flatMap_cons,eus]
       exact k1.append j1 (fun b=>rfl)
     . intro h
       rw [Bool.and_eq_true] at h;rw [List.all_append,k2 h.1,j2 h.2];rfl
     . intro b
       show φ b+ψ b<=1;have S:=k3 b;have B:=j3 b;by_cases u:φ b=0
       . omega
       . by_cases h3:ψ b=0
         . omega
         . obtain ⟨q,blk,e1,e2,e3⟩:=j5 b h3
           exact absurd ⟨q,blk,e1,e3⟩ (k4 b u)
     . intro b hb T
       have hb:φ b+ψ b≠0:=hb;by_cases u:φ b=0
       . exact j4 b (by omega) T
       . exact k4 b u (s2.fof T)
     . intro b hb
       have hb:φ b+ψ b≠0:=hb;by_cases u:φ b=0
       . obtain ⟨q,blk,e1,e2,e3⟩:=j5 b (by omega)
         exact ⟨q,blk,s1.1 _ _ e1,e2,e3⟩
       . obtain ⟨q,blk,e1,e2,e3⟩:=k5 b u
         exact ⟨q,blk,e1,z q blk e1 e2,e3⟩
     . intro m
       have:aT_ m t (y::ys')=enc m t y++aT_ m t ys':=rfl;rw [this];exact hS_ (ai_.dec m t cs y hd) (j6 m)
     . intro U J
       rcases List.mem_cons.1 J with rfl|J
       . have S:=fZ_ (ai_.dec .v t cs y hd)
         have B:=k1.length;rw [ai_.len] at S;rw [eus];simp;omega
       . exact j7 U J
 |[],_::_,_,_,h,_,_,_,_=>h.elim
 |_::_,[],_,_,h,_,_,_,_=>h.elim
theorem Goes.arr [ai_](hM:Mem E x w G){x1:X}(hS:Sub x1 x){q}(hq:x1.u q=false)(S:Grew w w'){te:TC}{xs:List (El te)}{sv vals L φ ok} (B:w'.ownsRow 0 (E.eid te) te.width sv xs.length vals)
  (k:∀ b,cG_ sv b≠0->w.heap.size<=b/\b<w'.heap.size) (hL:RL E w (Fof x G) L vals φ) (Z:ok=true->L.all AV.okD=true) (h1:∀ b,φ b<=1) (I:∀ b,φ b≠0->¬ Fof x1 G b)
  (hs:∀ m,sims m L (aT_ m te xs)) (hk:κ (x1.add q (.arr (M.meet .d ok) te 0 xs)) (.rt q)=some r):Goes E κ r x w G sv w':=by
 have T:x.u q=false:=by rw [<-hS.2];exact hq
 have p:∀ b,φ b≠0->Fof x G b/\b<w.heap.size:=hL.low;have J:∀ b,cG_ sv b<=1:=fun b=>by
  unfold cG_;split
  . split<;>omega
  . omega
 have fin:∀ φ',(∀ b,φ' b<=φ b)->(∀ ev:Evo x w G (x1.add q (.arr (M.meet .d ok) te 0 xs)) w' (G.put q sv vals (fun b=>cG_ sv b+φ' b) 0),RL E w' (Fof (x1.add q (.arr (M.meet .d ok) te 0 xs)) (G.put q sv vals (fun b=>cG_ sv b+φ' b) 0)) (aT_ (M.meet .d ok).sub te xs) vals φ') ->
   Goes E κ r x w G sv w':=by
  intro φ' O Y;have hφ:∀ b,cG_ sv b+φ' b≠0->b<w.heap.size->Fof x G b/\¬ Fof x1 G b:=fun b hb hlt=>by
   have h3:=O b;have V:φ b≠0:=by
    by_cases U:cG_ sv b=0
    . omega
    . exact absurd (k b U).1 (by omega)
   exact ⟨(p b V).1,I b V⟩
  have ev:=Evo.add hS T S (blk:=.arr (M.meet .d ok) te 0 xs) (sv:=sv) (vals:=vals) (φ:=fun b=>cG_ sv b+φ' b) (g:=0) (fun b h1 V=>(hφ b h1 V).1);refine ⟨_,_,_,hk,ev,hM.add hS T S hφ (fun b => ?_) (fun b hb => ?_) ?_,?_,?_⟩
  . show cG_ sv b+φ' b<=1
    have h3:=O b;have h4:=h1 b;have h5:=J b;by_cases U:cG_ sv b=0
    . omega
    . by_cases h6:φ b=0
      . omega
      . exact absurd (p b h6).2 (by have:=(k b U).1;omega)
  . have hb:cG_ sv b+φ' b≠0:=hb
    have h3:=O b;by_cases U:cG_ sv b=0
    . exact Nat.lt_of_lt_of_le (p b (by omega)).2 S.size
    . exact (k b U).2
  . refine ⟨M.meet_ne (by intro h;cases h) ok,?_,φ',?_,fun b => ?_⟩
    . simp only [ao_.put,if_true];exact B
    . have:=Y ev
      simp only [ao_.put,if_true] at this ⊢;exact this
    . simp only [ao_.put,if_true]
  . refine .flat _ _ (.inl ⟨?_,fun m t st ys _ => ?_⟩)
    . rcases B.2 with ⟨rfl,_⟩|⟨_,_,_,rfl,_⟩<;>rfl
    . simp only [ao_.put,if_true]
  . intro z hz
    simp only [AV.refsT,AV.refsD,AV.refs,List.mem_singleton] at hz;subst hz;exact bd_ _ _ _
 cases ok with
 |true=>
  refine fin φ (fun b=>Nat.le_refl _) fun ev => ?_;refine (hL.sim_d (hs .d) (Z rfl)).evolve ev fun b hb=>⟨S.heap b (p b hb).2,q,_,bd_ _ _ _,?_⟩
  simp only [ao_.put,if_true];omega
 |false=>
  refine fin (fun _=>0) (fun b=>Nat.zero_le _) fun ev => ?_;have hn:∀ b,φ b≠0->¬ Fof (x1.add q (.arr (M.meet .d false) te 0 xs)) (G.put q sv vals (fun b=>cG_ sv b+0) 0) b:=by
   intro b hb ⟨r',blk,e1,e2⟩;by_cases e:r'=q
   . subst e
     simp only [ao_.put,if_true,Nat.add_zero] at e2;have:=(k b e2).1;have:=(p b hb).2;omega
   . simp only [ao_.put,if_neg e] at e2
     exact I b hb ⟨r',blk,by simpa only [X.add,bg_ _ _ _ e] using e1,e2⟩
  have r1:=hL.sim_v (hs .v) hn fun b hb hF hF'=>hF (ev.fresh b hb hF');exact r1.frame S.size (fun b hb=>absurd rfl hb) fun b hb hF=>⟨S.heap b hb,hF⟩
omit [aj_] in
theorem scl_okD:∀ {l us},AllF scl l us->l.all AV.okD=true
 |[],[],_=>rfl
 |a::l,u::us,h=>by rw [List.all_cons,scl_okD h.2,Bool.and_true];have:=h.1;cases a<;>first|rfl|exact this.elim
 |[],_::_,h=>h.elim
 |_::_,[],h=>h.elim
theorem RL.of_scl {F:Nat->Prop}:∀ {l us},AllF scl l us->RL E w F l us (fun _=>0)
 |[],[],_=>.nil _ fun _=>rfl
 |a::l,u::us,h=>.scal _ _ _ _ _ h.1 (RL.of_scl h.2)
 |[],_::_,h=>h.elim
 |_::_,[],h=>h.elim
omit [aj_] in
theorem kh_ (w:World)(obj:Obj)(n c:Nat):∀ b,cG_ (.slice (some ⟨w.heap.size,0,none⟩) n c) b≠0->w.heap.size<=b/\b<(w.alloc obj).heap.size:=by
 intro b hb;have e:w.heap.size=b:=by simp only [cG_] at hb;exact Classical.byContradiction fun h=>hb (if_neg h)
 subst e;simp
omit [aj_] in
theorem sA_:∀ (k:Nat) (l:List (Nat×Value)),seqB k (l.map fun p=>p.1)=true->l=((l.map fun p=>p.2).zipIdx k).map fun x=>(x.2,x.1)
 |k,[],_=>rfl
 |k,(i,v)::l,h=>by simp only [List.map_cons,seqB,Bool.and_eq_true] at h;obtain rfl:=Nat.eq_of_beq_eq_true h.1;simp only [List.map_cons,List.zipIdx_cons];rw [<-sA_ (i+1) l h.2]
section
variable (hM:Mem E x w G)
include hM
theorem pF_ [ai_]{T n parts te q} (hT:E.P.underlying T=some (.slice (E.eid te))) (tc:TCok E te) (ho:o.op = .buildSlice T n parts) {vs:List AV} (Y:AllF (RT E w x G) vs (parts.toList.map fun p=>α p.2))
  (hn:n=parts.toList.length) (I:seqB 0 (parts.toList.map fun p=>p.1)=true) (hsm:n*te.width<=16777216) {x1 ys ok} (hr:gV_ te x vs=some (x1,ys,ok))
  (h:x1.new q (.arr (M.meet .d ok) te 0 ys) (fun x=>κ x (.rt q))=some r):bO_ E o α κ r x w G:=by
 unfold X.new at h;cases hq:x1.u q with
 |true=>rw [hq] at h;cases h
 |false=>
  rw [hq] at h;obtain ⟨s1,L,φ,k1,k2,k3,k4,k5,k6,k7,k8⟩:=oa_ hM te vs _ x (Sub.refl x) Y _ _ _ hr;obtain ⟨i,z,zs,zc,hi,hz,k,S,hzs,hall,Z,U⟩:=tc.info;have m:0<te.width:=ai_.pos te;have B:ys.length=n:=by rw [k8,Y.length,List.length_map,hn]
  have hcl:((parts.toList.map fun p=>α p.2).flatMap fun v=>v.cells.toList).length=n*te.width:=by rw [<-k1.length,fZ_ (k6 .v),dY_,B]
  have J:(Instr.buildSlice T n (parts.map fun (i,x)=>(i,α x))).run E.P w = .ok (.slice (some ⟨w.heap.size,0,none⟩) n n) (w.alloc (.cells ((parts.toList.map fun p=>α p.2).flatMap fun v=>v.cells.toList).toArray (E.eid te))):=by
   by_cases h0:n=0
   . have e:parts = #[]:=by
      apply Array.toList_inj.1;exact List.eq_nil_of_length_eq_zero (by omega)
     subst e;subst h0;simp [Instr.buildSlice,run_underlying hT,sizeOf,typeInfo,hi,Instr.fill,newRow]
     congr 2
     apply Array.toList_inj.1;simp
   . refine run_buildSlice w T (E.eid te) n _ _ i z hT hi hz (by rw [k];omega) (by rw [k];exact Nat.mul_ne_zero h0 (by omega)) ?_
     have e1:(parts.map fun (i,x)=>(i,α x)).toList=((parts.toList.map fun p=>α p.2).zipIdx 0).map fun x=>(x.2,x.1):=by have:=sA_ 0 (parts.toList.map fun p=>(p.1,α p.2)) (by rw [List.map_map];exact I);rw [List.map_map] at this;have h2:((fun p=>p.2) ∘ fun (p:Nat×Operand)=>(p.1,α p.2))=fun p=>α p.2:=rfl;rw [h2] at this;simpa using this
     rw [e1,k];exact Great.fill_whole m _ _ k7 (by simp [hn])
  have O:n<=maxLen:=by have:n*1<=n*te.width:=Nat.mul_le_mul_left _ m;simp only [maxLen];omega
  refine bO_.value (V:=.slice (some ⟨w.heap.size,0,none⟩) n n) (w':=w.alloc (.cells ((parts.toList.map fun p=>α p.2).flatMap fun v=>v.cells.toList).toArray (E.eid te))) (by simp [execOp,ho,J]) ?_;refine Goes.arr hM s1 hq (Grew.alloc _ _) (te:=te) (xs:=ys) (vals:=(parts.toList.map fun p=>α p.2).flatMap fun v=>v.cells.toList) (L:=L) (φ:=φ) (ok:=ok) ?_ (kh_ w _ n n) k1 k2 k3 k4 k6 h;rw [B];exact World.ownsRow_lit w _ n (Nat.zero_le _) O (by simpa using hcl)
theorem qO_ [ai_]{T l c te q k k' n} (hT:E.P.underlying T=some (.slice (E.eid te))) (tc:TCok E te) (ho:o.op = .makeSlice T l c) (hl:α l = .int k n) (hc:α c = .int k' n) (h0:0<=n) (hb:n*te.bytes<=140737488355328)
  (h:x.new q (.arr .d te 0 (List.replicate n.toNat (El.dflt te))) (fun x=>κ x (.rt q))=some r):bO_ E o α κ r x w G:=by
 unfold X.new at h;cases hq:x.u q with
 |true=>rw [hq] at h;cases h
 |false=>
  rw [hq] at h;obtain ⟨i,z,zs,zc,hi,hz,B,S,Y,J,hone,I⟩:=tc.info;have p:0<te.width:=ai_.pos te;obtain ⟨m,rfl⟩:∃ m:Nat,n=m:=⟨n.toNat,by omega⟩
  simp only [Int.toNat_natCast] at h;have hb':m*te.bytes<=140737488355328:=by
   have:((m*te.bytes:Nat):Int)<=140737488355328:=by rw [Int.natCast_mul];exact hb
   omega
  have hm1:m<=m*te.bytes:=Nat.le_mul_of_pos_right _ tc.pos;have U:zs.length=te.width:=by rw [<-J.length,fZ_ (I .v),ai_.len]
  have hr:=run_make (P:=E.P) w T (E.eid te) i z hT hi hz k k' m m (by omega) (Int.le_refl _) (by
   rw [S];have:((te.bytes*m:Nat):Int)<=281474976710656:=by rw [Nat.mul_comm];omega
   rwa [Int.natCast_mul] at this) (by omega)
  simp only [Int.toNat_natCast] at hr;have O:(madeCells z.cells (m*i.size)).toList=((List.replicate m z).flatMap fun v=>v.cells.toList):=by
   apply List.ext_getElem?;intro j;rw [Great.flat_get (s:=te.width) p _ (fun v hv=>by rw [(List.mem_replicate.1 hv).2,Y];simpa using U),B];by_cases hj:j<m*te.width
   . have hd:j / te.width<m:=(Nat.div_lt_iff_lt_mul p).2 hj
     have hmod:j % te.width<zs.length:=by rw [U];exact Nat.mod_lt _ p
     simp [madeCells,hj,hd,Y,U]
     have Z:j % te.width<zs.length:=hmod;simp [List.getElem?_eq_getElem Z]
   . have hd:¬ j / te.width<m:=fun h=>hj ((Nat.div_lt_iff_lt_mul p).1 h)
     simp [madeCells,hj,hd]
  have rep:∀ n:Nat,RL E w (Fof x G) ((List.replicate n zc).flatMap id) ((List.replicate n z).flatMap fun v=>v.cells.toList) (fun _=>0)/\((List.replicate n zc).flatMap id).all AV.okD=true /\
    ∀ m,sims m ((List.replicate n zc).flatMap id) (aT_ m te (List.replicate n (El.dflt te))):=by
   intro n;induction n with
   |zero=>exact ⟨.nil _ fun _=>rfl,rfl,fun _=>trivial⟩
   |succ n ih=>
    obtain ⟨i1,i2,i3⟩:=ih;simp only [List.replicate_succ,List.flatMap_cons,id];refine ⟨?_,?_,fun m => ?_⟩
    . rw [Y];exact (RL.of_scl J).append i1 (fun _=>rfl)
    . rw [List.all_append,i2,Bool.and_true]
      exact scl_okD J
    . exact hS_ (I m) (i3 m)
  obtain ⟨j1,j2,j3⟩:=rep m;refine bO_.value (V:=.slice (some ⟨w.heap.size,0,none⟩) m m) (w':=w.alloc (.cells (madeCells z.cells (m*i.size)) (E.eid te))) (by simp [execOp,ho,hl,hc,hr]) ?_;refine Goes.arr hM (Sub.refl x) hq (Grew.alloc _ _) (te:=te) (xs:=List.replicate m (El.dflt te)) (vals:=(List.replicate m z).flatMap fun v=>v.cells.toList) (φ:=fun _=>0) (ok:=true) ?_ (kh_ w _ m m) j1 (fun _=>j2) (fun b=>Nat.zero_le _) (fun b hb=>absurd rfl hb) j3 h;rw [<-O,List.length_replicate];exact World.ownsRow_lit w _ m (Nat.zero_le _) (by simp only [maxLen];omega) (by rw [size_madeCells,B])
end
end
section
structure lh_ (w w':World) (C:Nat->Prop):Prop where
 os:w'.os=w.os
 tape:w'.tape=w.tape
 output:w'.output=w.output
 size:w.heap.size<=w'.heap.size
 heap:∀ b,b<w.heap.size->¬ C b->w'.heap[b]?=w.heap[b]?
variable [aj_]
open aj_
variable {E:Env} {x:X} {w w':World} {G:ao_} {C:Nat->Prop}
omit [aj_] in
theorem Evo.addC {x1:X}(I:Sub x1 x){q}(hq:x.u q=false)(m:lh_ w w' C)(J:∀ b,C b->Fof x G b/\¬ Fof x1 G b){blk sv vals φ g}(hφ:∀ b,φ b≠0->b<w.heap.size->Fof x G b) :
  Evo x w G (x1.add q blk) w' (G.put q sv vals φ g):=by
 refine ⟨m.os,m.tape,m.output,m.size,fun b hb h=>m.heap b hb fun hc=>h (J b hc).1,fun b hb S => ?_,fun r hr => ?_,fun r blk' p hr => ?_,fun r b p hr => ?_⟩
 . obtain ⟨r,k,O,z⟩:=S
   by_cases e:r=q
   . subst e
     simp only [ao_.put,if_true] at z;exact hφ b z hb
   . simp only [ao_.put,if_neg e] at z
     simp only [X.add,bg_ _ _ _ e] at O;exact ⟨r,k,I.1 _ _ O,z⟩
 . by_cases e:r=q
   . subst e;exact bd_ _ _ _
   . simp only [X.add,bg_ _ _ _ e,I.2];exact hr
 . by_cases e:r=q
   . subst e;rw [hq] at p;cases p
   . simp only [X.add,bg_ _ _ _ e] at hr
     refine ⟨blk',I.1 _ _ hr,Same.refl _,by simp only [ao_.put,if_neg e],by simp only [ao_.put,if_neg e],fun _ _ _ _ _ _ _ _ _=>by simp only [ao_.put,if_neg e]⟩
 . by_cases e:r=q
   . subst e;rw [hq] at p;cases p
   . exact ⟨by simp only [ao_.put,if_neg e],fun hb B=>m.heap b B fun hc=>(J b hc).2 ⟨r,_,by simpa only [X.add,bg_ _ _ _ e] using hr,hb⟩⟩
theorem Mem.addC (hM:Mem E x w G){x1:X}(p:Sub x1 x){q}(hq:x.u q=false)(I:lh_ w w' C)(J:∀ b,C b->Fof x G b/\¬ Fof x1 G b){blk sv vals φ g}(hφ:∀ b,φ b≠0->b<w.heap.size->Fof x G b/\¬ Fof x1 G b)(T:∀ b,φ b<=1)(z:∀ b,φ b≠0->b<w'.heap.size)
  (m:jz_ E (x1.add q blk) w' (G.put q sv vals φ g) q blk):Mem E (x1.add q blk) w' (G.put q sv vals φ g):=by
 have ev:=Evo.addC p hq I J (blk:=blk) (sv:=sv) (vals:=vals) (φ:=φ) (g:=g) fun b S O=>(hφ b S O).1;have k:∀ r blk',r≠q->(x1.add q blk).h r=some blk'->x1.h r=some blk':=fun r blk' e h=>by simpa only [X.add,bg_ _ _ _ e] using h
 refine hM.build ev C (fun b hb h=>I.heap b hb h) (fun r blk' hr => ?_) (fun r r' b1 b2 b k1 k2 k3 k4 => ?_)
 . by_cases e:r=q
   . subst e
     have:blk=blk':=by simpa only [X.add,bd_,Option.some.injEq] using hr
     subst this;exact .inr ⟨m,bd_ _ _ _,fun b=>by simp only [ao_.put,if_true];exact ⟨T b,z b⟩⟩
   . exact .inl ⟨p.1 _ _ (k r _ e hr),by simp only [ao_.put,if_neg e],by simp only [ao_.put,if_neg e],by simp only [ao_.put,if_neg e],fun b=>by simp only [ao_.put,if_neg e],fun b hb hc=>(J b hc).2 ⟨r,_,k r _ e hr,hb⟩⟩
 . by_cases e:r=q
   . by_cases e':r'=q
     . rw [e,e']
     . exfalso
       subst e;simp only [ao_.put,if_true] at k3;simp only [ao_.put,if_neg e'] at k4;have B:=hM.low r' b2 b (p.1 _ _ (k r' _ e' k2)) k4;exact (hφ b k3 B).2 ⟨r',b2,k r' _ e' k2,k4⟩
   . by_cases e':r'=q
     . exfalso
       subst e';simp only [ao_.put,if_true] at k4;simp only [ao_.put,if_neg e] at k3;have B:=hM.low r b1 b (p.1 _ _ (k r _ e k1)) k3;exact (hφ b k4 B).2 ⟨r,b1,k r _ e k1,k3⟩
     . simp only [ao_.put,if_neg e] at k3
       simp only [ao_.put,if_neg e'] at k4;exact hM.sep r r' b1 b2 b (p.1 _ _ (k r _ e k1)) (p.1 _ _ (k r' _ e' k2)) k3 k4
omit [aj_] in
theorem pd_ (v:Value)(b:Nat):cG_ v b<=1:=by
 unfold cG_;split
 . split<;>omega
 . omega
variable {ω:Type} {κ:X->AV->Option ω} {r:ω} {o:Oper} {α:Operand->Value}
theorem Goes.arrC [ai_](hM:Mem E x w G){x1:X}(hS:Sub x1 x){q}(hq:x1.u q=false)(I:lh_ w w' C)(Y:∀ b,C b->Fof x G b/\¬ Fof x1 G b){te:TC}{xs:List (El te)}{sv vals L φ ok} (J:w'.ownsRow 0 (E.eid te) te.width sv xs.length vals)
  (p:∀ b,cG_ sv b≠0->(w.heap.size<=b\/C b)/\b<w'.heap.size) (Z:RL E w (Fof x G) L vals φ) (hφC:∀ b,φ b≠0->¬ C b) (hok:ok=true->L.all AV.okD=true) (h1:∀ b,φ b<=1) (O:∀ b,φ b≠0->¬ Fof x1 G b)
  (hs:∀ m,sims m L (aT_ m te xs)) (hk:κ (x1.add q (.arr (M.meet .d ok) te 0 xs)) (.rt q)=some r):Goes E κ r x w G sv w':=by
 have U:x.u q=false:=by rw [<-hS.2];exact hq
 have k:∀ b,φ b≠0->Fof x G b/\b<w.heap.size:=Z.low;have V:∀ b,φ b≠0->cG_ sv b=0:=fun b hb=>Classical.byContradiction fun h=>by
  rcases (p b h).1 with B|B
  . have:=(k b hb).2;omega
  . exact hφC b hb B
 have fin:∀ φ',(∀ b,φ' b<=φ b)->(∀ ev:Evo x w G (x1.add q (.arr (M.meet .d ok) te 0 xs)) w' (G.put q sv vals (fun b=>cG_ sv b+φ' b) 0),RL E w' (Fof (x1.add q (.arr (M.meet .d ok) te 0 xs)) (G.put q sv vals (fun b=>cG_ sv b+φ' b) 0)) (aT_ (M.meet .d ok).sub te xs) vals φ') ->
   Goes E κ r x w G sv w':=by
  intro φ' T hrl;have hφ:∀ b,cG_ sv b+φ' b≠0->b<w.heap.size->Fof x G b/\¬ Fof x1 G b:=fun b hb hlt=>by
   have h3:=T b;by_cases h0:cG_ sv b=0
   . have B:φ b≠0:=by omega
     exact ⟨(k b B).1,O b B⟩
   . rcases (p b h0).1 with B|B
     . omega
     . exact Y b B
  have ev:=Evo.addC hS U I Y (blk:=.arr (M.meet .d ok) te 0 xs) (sv:=sv) (vals:=vals) (φ:=fun b=>cG_ sv b+φ' b) (g:=0) (fun b h1 B=>(hφ b h1 B).1);refine ⟨_,_,_,hk,ev,hM.addC hS U I Y hφ (fun b => ?_) (fun b hb => ?_) ?_,?_,?_⟩
  . show cG_ sv b+φ' b<=1
    have h3:=T b;have h4:=h1 b;have h5:=pd_ sv b;by_cases h6:φ b=0
    . omega
    . have:=V b h6;omega
  . have hb:cG_ sv b+φ' b≠0:=hb
    have h3:=T b;by_cases h0:cG_ sv b=0
    . exact Nat.lt_of_lt_of_le (k b (by omega)).2 I.size
    . exact (p b h0).2
  . refine ⟨M.meet_ne (by intro h;cases h) ok,?_,φ',?_,fun b => ?_⟩
    . simp only [ao_.put,if_true];exact J
    . have:=hrl ev
      simp only [ao_.put,if_true] at this ⊢;exact this
    . simp only [ao_.put,if_true]
  . refine .flat _ _ (.inl ⟨?_,fun m t st ys _ => ?_⟩)
    . rcases J.2 with ⟨rfl,_⟩|⟨_,_,_,rfl,_⟩<;>rfl
    . simp only [ao_.put,if_true]
  . intro z hz
    simp only [AV.refsT,AV.refsD,AV.refs,List.mem_singleton] at hz;subst hz;exact bd_ _ _ _
 cases ok with
 |true=>
  refine fin φ (fun b=>Nat.le_refl _) fun ev => ?_;refine (Z.sim_d (hs .d) (hok rfl)).evolve ev fun b hb=>⟨I.heap b (k b hb).2 (hφC b hb),q,_,bd_ _ _ _,?_⟩
  simp only [ao_.put,if_true];omega
 |false=>
  refine fin (fun _=>0) (fun b=>Nat.zero_le _) fun ev => ?_;have hn:∀ b,φ b≠0->¬ Fof (x1.add q (.arr (M.meet .d false) te 0 xs)) (G.put q sv vals (fun b=>cG_ sv b+0) 0) b:=by
   intro b hb ⟨r',blk,e1,e2⟩;by_cases e:r'=q
   . subst e
     simp only [ao_.put,if_true,Nat.add_zero] at e2;exact e2 (V b hb)
   . simp only [ao_.put,if_neg e] at e2
     exact O b hb ⟨r',blk,by simpa only [X.add,bg_ _ _ _ e] using e1,e2⟩
  have r0:=(Z.frame (w':=w') (F':=fun b=>Fof x G b) I.size (fun b hb=>⟨I.heap b (k b hb).2 (hφC b hb),(k b hb).1⟩) fun b hb S=>⟨I.heap b hb fun hc=>S (Y b hc).1,S⟩)
  have r1:=Z.sim_v (hs .v) (F':=fun b=>Fof (x1.add q (.arr (M.meet .d false) te 0 xs)) (G.put q sv vals (fun b=>cG_ sv b+0) 0) b\/C b) (fun b hb h=>h.elim (hn b hb) (hφC b hb)) fun b hb S h=>h.elim (fun h=>S (ev.fresh b hb h)) fun h=>S (Y b h).1;exact r1.frame I.size (fun b hb=>absurd rfl hb) fun b hb S=>⟨I.heap b hb fun h=>S (.inr h),fun h=>S (.inl h)⟩
omit [aj_] in
theorem ql_ {m m':M}:∀ (l c:List AV),l.map AV.asView=c.map AV.asView->(∀ a ∈ l,a.coded m)->(∀ a ∈ c,a.coded m')->sims m' l c
 |[],[],_,_,_=>trivial
 |a::l,b::c,h,u,p=>by
  simp only [List.map_cons,List.cons.injEq] at h;refine ⟨?_,ql_ l c h.2 (fun a ha=>u a (List.mem_cons_of_mem _ ha)) fun a ha=>p a (List.mem_cons_of_mem _ ha)⟩;have e:=h.1;rcases u a (List.mem_cons_self ..) with ⟨k,n,rfl⟩|⟨q,rfl⟩|⟨s,rfl⟩|⟨t,xs,rfl⟩<;>rcases p b (List.mem_cons_self ..) with ⟨k',n',rfl⟩|⟨q',rfl⟩|⟨s',rfl⟩|⟨t',xs',rfl⟩ <;>
   simp only [AV.asView] at e<;>first|(cases e;rfl)|cases e
 |[],_::_,h,_,_=>by simp at h
 |_::_,[],h,_,_=>by simp at h
theorem eq_ [ai_]{m:M}{t:TC}{xs:List (El t)}:∀ a ∈ aT_ m t xs,a.coded m:=by intro a ha;obtain ⟨y,_,h⟩:=List.mem_flatMap.1 ha;exact ai_.cell _ _ _ a h
theorem iy_ [ai_](m m':M)(t:TC) (xs:List (El t)):sims m' (aT_ m t xs) (aT_ m' t xs) :=
 ql_ _ _ (by rw [fd_,fd_]) eq_ eq_
theorem kr_ [ai_]{m:M}{t:TC}(p:t.flat=true){xs:List (El t)}:∀ a ∈ aT_ m t xs,(∃ k n,a = .i k n)\/(∃ q,a = .b q)\/∃ l,a = .s l:=by
 intro a ha;have z:a ∈ aT_ .d t xs:=by rw [iQ_ p (m':=m)];exact ha
 have u:a ∈ aT_ .v t xs:=by rw [iQ_ p (m':=m)];exact ha
 rcases eq_ a z with h|h|h|⟨t',ys,rfl⟩
 . exact .inl h
 . exact .inr (.inl h)
 . exact .inr (.inr h)
 . rcases eq_ _ u with ⟨_,_,e⟩|⟨_,e⟩|⟨_,e⟩|⟨_,_,e⟩<;>cases e
theorem RL.flat0 {F:Nat->Prop}{l vs φ}(h:RL E w F l vs φ):(∀ a ∈ l,(∃ k n,a = .i k n)\/(∃ q,a = .b q)\/∃ l,a = .s l)->∀ b,φ b=0:=by
 induction h with
 |nil _ p=>exact fun _=>p
 |scal a v l vs φ _ _ ih=>exact fun m=>ih fun a ha=>m a (List.mem_cons_of_mem _ ha)
 |_=>intro m;rcases m _ (List.mem_cons_self ..) with ⟨_,_,e⟩|⟨_,e⟩|⟨_,e⟩<;>cases e
theorem RL.one {F:Nat->Prop}{l vs φ}(h:RL E w F l vs φ):(∀ a ∈ l,∃ m,a.coded m)->∀ u ∈ vs,u.oneCell'=true:=by
 induction h with
 |nil=>intro _ u k;cases k
 |scal a v l vs φ hs _ ih=>
  intro hc u k;rcases List.mem_cons.1 k with rfl|k
  . obtain ⟨m,p⟩:=hc _ (List.mem_cons_self ..)
    rcases p with ⟨_,_,rfl⟩|⟨_,rfl⟩|⟨_,rfl⟩|⟨_,_,rfl⟩
    . have:u=_:=hs;subst this;rfl
    . have:u=_:=hs;subst this;rfl
    . have:u=_:=hs;subst this;rfl
    . exact hs.elim
  . exact ih (fun a ha=>hc a (List.mem_cons_of_mem _ ha)) u k
 |view t xs a n cap vals z l vs φ hn _ hz hb _ _ ih=>
  intro hc u k;rcases List.mem_cons.1 k with rfl|k
  . rfl
  . exact ih (fun a ha=>hc a (List.mem_cons_of_mem _ ha)) u k
 |own m t xs v vals φ₁ l vs φ₂ φ p B _ hF _ he _ ih=>
  intro hc u k;rcases List.mem_cons.1 k with rfl|k
  . rcases B.2 with ⟨rfl,_⟩|⟨_,_,_,rfl,_⟩<;>rfl
  . exact ih (fun a ha=>hc a (List.mem_cons_of_mem _ ha)) u k
 |pc=>
  intro hc;obtain ⟨m,p⟩:=hc _ (List.mem_cons_self ..);rcases p with ⟨_,_,e⟩|⟨_,e⟩|⟨_,e⟩|⟨_,_,e⟩<;>cases e
 |bx=>
  intro hc;obtain ⟨m,p⟩:=hc _ (List.mem_cons_self ..);rcases p with ⟨_,_,e⟩|⟨_,e⟩|⟨_,e⟩|⟨_,_,e⟩<;>cases e
 |ag=>
  intro hc;obtain ⟨m,p⟩:=hc _ (List.mem_cons_self ..);rcases p with ⟨_,_,e⟩|⟨_,e⟩|⟨_,e⟩|⟨_,_,e⟩<;>cases e
 |tu=>
  intro hc;obtain ⟨m,p⟩:=hc _ (List.mem_cons_self ..);rcases p with ⟨_,_,e⟩|⟨_,e⟩|⟨_,e⟩|⟨_,_,e⟩<;>cases e
 |clo=>
  intro hc;obtain ⟨m,p⟩:=hc _ (List.mem_cons_self ..);rcases p with ⟨_,_,e⟩|⟨_,e⟩|⟨_,e⟩|⟨_,_,e⟩<;>cases e
end
section
variable [aj_]
open aj_
variable {E:Env} {x:X} {w w':World} {G:ao_}
structure SrcOk (E:Env) (x:X) (w:World) (G:ao_) (V:Value) (x1:X) (t:TC) (ys:List (El t)) (ok:Bool) (x0:X) (G0:ao_) (L:List AV) (φ:Nat->Nat) (vals:List Value):Prop where
 evo:Evo x w G x0 w G0
 mem:Mem E x0 w G0
 sub:Sub x1 x0
 rl:RL E w (Fof x0 G0) L vals φ
 okD:ok=true->L.all AV.okD=true
 one:∀ b,φ b<=1
 out:∀ b,φ b≠0->¬ Fof x1 G0 b
 sims:∀ m,sims m L (aT_ m t ys)
 cell:∀ u ∈ vals,u.oneCell'=true
 val:(∃ a c,V = .slice (some a) ys.length c/\∀ j u,vals[j]?=some u->w.cell? (a.add j)=some u)\/(∃ c,V = .slice none 0 c/\ys=[])
theorem pJ_ [ai_]{m:M}{t:TC}(k:t.flat=true){xs:List (El t)}:(aT_ m t xs).all AV.okD=true:=by rw [List.all_eq_true];intro a ha;rcases kr_ k a ha with ⟨_,_,rfl⟩|⟨_,rfl⟩|⟨_,rfl⟩<;>rfl
theorem tk_ [ai_]{t:TC}{xs:List (El t)}:(aT_ .d t xs).all AV.okD=true:=by rw [List.all_eq_true];intro a ha;rcases eq_ a ha with ⟨_,_,rfl⟩|⟨_,rfl⟩|⟨_,rfl⟩|⟨_,_,rfl⟩<;>rfl
omit [aj_] in
theorem X.blk_same {x:X}{q b}(h:x.h q=some b):x.blk q (some b)=x:=by
 have:upd x.h q (some b)=x.h:=by
  funext r
  by_cases e:r=q
  . subst e;rw [bd_,h]
  . rw [bg_ _ _ _ e]
 unfold X.blk;rw [this]
omit [aj_] in
theorem own_val {E':TypeId}{size n:Nat}{v:Value}{xs:List Value}(h:w.ownsRow 0 E' size v n xs):(∃ a c,v = .slice (some a) n c/\∀ j u,xs[j]?=some u->w.cell? (a.add j)=some u)\/(v = .slice none 0 0/\n=0):=by
 rcases h.2 with ⟨rfl,k⟩|⟨g,cap,cur,rfl,_⟩
 . exact .inr ⟨rfl,k⟩
 . exact .inl ⟨_,cap,rfl,h.cells (g:=g) rfl⟩
theorem RL.rows_part [ai_]{F:Nat->Prop}{m:M}{t:TC}{xs:List (El t)}{vals φ} (h:RL E w F (aT_ m t xs) vals φ) (p:∀ b,φ b=0) {lo hi:Nat} (z:lo<=hi) (u:hi<=xs.length) :
  RL E w F (aT_ m t ((xs.take hi).drop lo)) ((vals.drop (lo*t.width)).take ((hi - lo)*t.width)) (fun _=>0):=by
 have e:xs=(xs.take hi).take lo++((xs.take hi).drop lo++xs.drop hi):=by rw [<-List.append_assoc,List.take_append_drop,List.take_append_drop]
 have k:RL E w F (aT_ m t ((xs.take hi).take lo)++(aT_ m t ((xs.take hi).drop lo)++aT_ m t (xs.drop hi))) vals φ:=by rw [<-cI_,<-cI_,<-e];exact h
 obtain ⟨us,us',φ₁,φ₂,rfl,k1,k2,e1⟩:=RL.split k;obtain ⟨vs,vs',φ₃,φ₄,rfl,k3,k4,e2⟩:=RL.split k2;have l1:us.length=lo*t.width:=by rw [<-k1.length,dY_,List.length_take,List.length_take];congr 1;omega
 have l2:vs.length=(hi - lo)*t.width:=by rw [<-k3.length,dY_,List.length_drop,List.length_take];congr 1;omega
 rw [<-l1,List.drop_left,<-l2,List.take_left];exact k3.congr fun b=>by have:=p b;rw [e1,e2] at this;omega
theorem Mem.demote [ai_](hM:Mem E x w G){q m t st xs} (hq:x.h q=some (.arr m t st xs)) (b:Bool) (hb:b=true->m = .s\/True) :
  ∃ G',Evo x w G (x.blk q (some (.arr (m.meet b) t st xs))) w G'/\Mem E (x.blk q (some (.arr (m.meet b) t st xs))) w G'/\G'.sv=G.sv/\G'.vals=G.vals:=by
 obtain ⟨S,I,ψ,B,hφ⟩:=hM.root q _ hq;by_cases hc:m.meet b=m
 . rw [hc,X.blk_same hq]
   exact ⟨G,Evo.refl _ _ _,hM,rfl,rfl⟩
 . have T:(m.meet b).sub = .v:=by
    rcases M.meet_sub S b with ⟨rfl,rfl,h⟩|h
    . exact absurd h hc
    . exact h
   have p:∀ b,cG_ (G.sv q) b≠0->G.φ q b≠0:=fun b hb=>by rw [hφ];omega
   have k:∀ b r' blk,G.φ q b≠0->x.h r'=some blk->r'≠q->G.φ r' b=0:=fun b r' blk hb hr u=>Classical.byContradiction fun U=>u (hM.sep r' q _ _ b hr hq U hb);have z:=hM.turn (Sub.refl x) hq (w':=w) (m':=m.meet b) (st':=st) (xs':=xs) (vals:=G.vals q) (φ:=fun b=>cG_ (G.sv q) b) rfl (Nat.le_refl _) (fun _=>⟨rfl,rfl⟩) rfl rfl rfl rfl (fun _ _=>rfl)
    (fun b hb=>⟨⟨q,_,hq,p b hb⟩,fun r' blk hr u=>k b r' blk (p b hb) hr u⟩) (fun b=>pd_ _ _) (fun ev => ?_)
   . refine ⟨_,z.1,z.2,?_,?_⟩
     . funext r';simp only [ao_.put];split
       . rename_i e;rw [e]
       . rfl
     . funext r';simp only [ao_.put];split
       . rename_i e;rw [e]
       . rfl
   . refine ⟨M.meet_ne S b,by simp only [ao_.put,if_true];exact I,fun _=>0,?_,fun b=>by simp only [ao_.put,if_true,Nat.add_zero]⟩
     rw [T];have r1:=B.seen (F':=Fof (x.blk q (some (.arr (m.meet b) t st xs))) (G.put q (G.sv q) (G.vals q) (fun b=>cG_ (G.sv q) b) (G.g q))) (fun b hb O => ?_) (fun b hb O J=>O (ev.fresh b hb J))
     . rw [fd_] at r1
       simp only [ao_.put,if_true] at r1 ⊢;exact r1
     . obtain ⟨r',blk,e1,e2⟩:=O
       by_cases e:r'=q
       . subst e
         simp only [ao_.put,if_true] at e2;have:=hM.one _ _ b hq;rw [hφ] at this;omega
       . simp only [ao_.put,if_neg e] at e2
         exact e2 (k b r' blk (by rw [hφ];omega) (by simpa only [X.blk,bg_ _ _ _ e] using e1) e)
theorem src_sound [ai_](hM:Mem E x w G){y V}(hv:RT E w x G y V){x1 t ys ok} (h:ms_ x y=some (x1,⟨t,ys,ok⟩)) :
  ∃ x0 G0 L φ vals,SrcOk E x w G V x1 t ys ok x0 G0 L φ vals:=by
 cases y<;>simp only [ms_] at h<;>(try (cases h;done))
 case sl m t' xs=>
  cases m<;>simp only at h<;>(try (cases h;done));simp only [Option.some.injEq,Prod.mk.injEq] at h;obtain ⟨rfl,h⟩:=h;cases h;have I:=hv.rf (by intro cs e;cases e) (by intro cs e;cases e) (by intro f cs e;cases e);cases I with
  |scal _ _ _ _ _ hs _=>exact hs.elim
  |own _ _ _ _ _ _ _ _ _ _ T=>exact absurd rfl T
  |view _ _ a n cap vals z _ _ _ hn h1 Y hb _=>
   refine ⟨x,G,_,z,vals,⟨Evo.refl _ _ _,hM,Sub.refl _,h1,fun h=>pJ_ h,fun b=>by rw [Y];omega,fun b hb=>absurd (Y b) hb,fun m=>iy_ _ _ _ _,h1.one fun a ha=>⟨.v,eq_ a ha⟩,?_⟩⟩;by_cases O:0<n
   . obtain ⟨b,o,rfl,hr,_⟩:=hb O
     refine .inl ⟨_,cap,by rw [hn.1],fun j u U => ?_⟩;rw [Addr.add_mid];exact hr j u U
   . have hn0:n=0:=by omega
     subst hn0;have hys:ys=[]:=List.eq_nil_of_length_eq_zero hn.1.symm;subst hys;cases a with
     |none=>exact .inr ⟨cap,rfl,rfl⟩
     |some a=>
      have Z:=h1.length;refine .inl ⟨a,cap,rfl,fun j u U => ?_⟩;have:vals=[]:=List.eq_nil_of_length_eq_zero Z.symm;subst this;simp at U
 case rt q=>
  cases hq:x.h q with
  |none=>rw [hq] at h;cases h
  |some blk=>
   rw [hq] at h;cases blk with
   |box=>cases h
   |ext=>cases h
   |arr m t' st xs=>
    obtain ⟨T,B,ψ,k,hφ⟩:=hM.root q _ hq;have I:=hv.rf (by intro cs e;cases e) (by intro cs e;cases e) (by intro f cs e;cases e);have hsv:=I.2 _ _ _ _ (.arr hq);subst hsv;have S:∀ {zs:List (El t')},zs=xs->(∃ a c,G.sv q = .slice (some a) zs.length c/\∀ j u,(G.vals q)[j]?=some u->w.cell? (a.add j)=some u)\/(∃ c,G.sv q = .slice none 0 c/\zs=[]):=by
     intro zs e;subst e;rcases own_val B with h|⟨h,O⟩
     . exact .inl h
     . exact .inr ⟨0,h,List.eq_nil_of_length_eq_zero O⟩
    cases p:t'.flat with
    |true=>
     simp only [p,cond_true,Option.some.injEq,Prod.mk.injEq] at h;obtain ⟨rfl,h⟩:=h;cases h;have O:=k.flat0 (kr_ p);exact ⟨x,G,_,ψ,_,⟨Evo.refl _ _ _,hM,Sub.refl _,k,fun _=>pJ_ p,fun b=>by rw [O];omega,fun b hb=>absurd (O b) hb,fun m=>iy_ _ _ _ _,k.one fun a ha=>⟨_,eq_ a ha⟩,S rfl⟩⟩
    |false=>
     simp only [p,cond_false,Option.some.injEq,Prod.mk.injEq] at h;obtain ⟨rfl,h⟩:=h;cases h;refine ⟨x,G,_,ψ,_,⟨Evo.refl _ _ _,hM,Sub.kill x q,k,fun h => ?_,fun b => ?_,fun b hb hF => ?_,fun m=>iy_ _ _ _ _,k.one fun a ha=>⟨_,eq_ a ha⟩,S rfl⟩⟩
     . cases m with
       |d=>exact tk_
       |s=>cases h
       |v=>cases h
     . have:=hM.one q _ b hq;rw [hφ] at this;omega
     . obtain ⟨r',blk,e1,e2⟩:=hF
       have e3:=hM.sep q r' _ _ b hq ((Sub.kill x q).1 _ _ e1) (by rw [hφ];omega) e2;subst e3;simp [X.blk,bd_] at e1
 case sr q lo hi=>
  cases hq:x.h q with
  |none=>rw [hq] at h;cases h
  |some blk=>
   rw [hq] at h;cases blk with
   |box=>cases h
   |ext=>cases h
   |arr m t' st xs=>
    simp only [Option.some.injEq,Prod.mk.injEq] at h;obtain ⟨rfl,h⟩:=h;cases h;have I:=hv.rf (by intro cs e;cases e) (by intro cs e;cases e) (by intro f cs e;cases e);obtain ⟨a,n,c,a',c',hsv,hlh,hhi,hcc,hV,hpos⟩:=I.2 _ _ _ _ (.arr hq);obtain ⟨G',ev,hM',esv,evals⟩:=hM.demote hq t.flat (fun _=>.inr trivial);obtain ⟨hm',B,ψ,k,hφ⟩:=hM'.root q _ (bd_ _ _ _);have T:m ≠ .v:=by obtain ⟨T,_⟩:=hM.root q _ hq;exact T
    rw [esv] at B hφ;rw [evals] at B k;have O:∀ b,ψ b=0:=by
     cases p:t.flat with
     |true=>exact k.flat0 (kr_ p)
     |false=>
      rcases M.meet_sub T false with ⟨_,h,_⟩|h
      . cases h
      . rw [p,h] at k
        intro b;have:=k;have key:∀ {F:Nat->Prop}{l vs φ},RL E w F l vs φ->(∀ a ∈ l,a.coded .v)->∀ b,φ b=0:=by
         intro F l vs φ h;induction h with
         |nil _ O=>exact fun _=>O
         |scal a v l vs φ _ _ ih=>exact fun I=>ih fun a ha=>I a (List.mem_cons_of_mem _ ha)
         |view t xs a n cap vals z l vs φ hn _ Y hb _ _ ih=>exact fun I=>ih fun a ha=>I a (List.mem_cons_of_mem _ ha)
         |own m t xs v vals φ₁ l vs φ₂ φ T B _ hF _ he _ ih=>
          intro I;rcases I _ (List.mem_cons_self ..) with ⟨_,_,e⟩|⟨_,e⟩|⟨_,e⟩|⟨_,_,e⟩<;>cases e
          exact absurd rfl T
         |_=>intro I;rcases I _ (List.mem_cons_self ..) with ⟨_,_,e⟩|⟨_,e⟩|⟨_,e⟩|⟨_,_,e⟩<;>cases e
        exact key this eq_ b
    have J:=k.rows_part O hlh hhi;have hlen:((xs.take hi).drop lo).length=hi - lo:=by rw [List.length_drop,List.length_take];omega
    refine ⟨_,G',_,fun _=>0,_,⟨ev,hM',Sub.refl _,J,fun h=>pJ_ h,fun b=>by omega,fun b hb=>absurd rfl hb,fun m=>iy_ _ _ _ _,J.one fun a ha=>⟨_,eq_ a ha⟩,?_⟩⟩;rw [hlen];by_cases hlt:lo<hi
    . obtain ⟨g,rfl,rfl⟩:=hpos hlt
      refine .inl ⟨_,c',hV,fun j u U => ?_⟩;have hr:=ee_ (gE_ B hsv) (lo*t.width) ((hi - lo)*t.width);rw [Nat.zero_add] at hr;rw [Addr.add_mid];exact hr j u U
    . have Y:hi - lo=0:=by omega
      have hnil:(xs.take hi).drop lo=[]:=List.eq_nil_of_length_eq_zero (by omega);rw [Y] at hV;cases a' with
      |none=>exact .inr ⟨c',hV,hnil⟩
      |some a'=>
       refine .inl ⟨a',c',by rw [Y];exact hV,fun j u U => ?_⟩;rw [Y,Nat.zero_mul] at U;simp at U
end
section
section
variable {P:Program} (w:World)
theorem gC_ (t ty e:TypeId)(i:TypeInfo)(z:Value) (U:P.underlying t=some (.slice e)) (hi:P.info? e=some i) (hz:i.zero=some z)
  (hzs:z.cells.size=i.size) (hsz:0<i.size) (v:Value) (n:Nat) (xs:List Value) (p:w.ownsRow 0 e i.size v n xs)
  (V:Value) (m:Nat) (news:List Value) (hl:news.length=m*i.size) (hV:(∃ a c,V = .slice (some a) m c/\∀ j u,news[j]?=some u->w.cell? (a.add j)=some u)\/(∃ c,V = .slice none 0 c/\m=0)) (h1:∀ u ∈ news,u.oneCell'=true)
  (h63:n+m<=maxLen) (I:(n+m)*i.bytes<=140737488355328) :
  ∃ v' w',(Builtin.append_ #[t,t] ty #[v,V]).run P w = .ok v' w'/\w'.ownsRow 0 e i.size v' (n+m) (xs++news)/\lh_ w w' (fun b=>cG_ v b≠0)/\∀ b,cG_ v' b≠0->(w.heap.size<=b\/cG_ v b≠0)/\b<w'.heap.size:=by
 have hsmall:n+m<=9223372036854775807:=by simp only [maxLen] at h63;omega
 have S:∀ {w':World}{v':Value}{k:Nat}{us:List Value},w'.ownsRow 0 e i.size v' k us->∀ b,cG_ v' b≠0->b<w'.heap.size:=by
  intro w' v' k us h b hb;rcases h.2 with ⟨rfl,_⟩|⟨g,cap,cur,rfl,_,hg,_⟩
  . simp [cG_] at hb
  . have:g=b:=by simp only [cG_] at hb;exact Classical.byContradiction fun h=>hb (if_neg h)
    subst this;exact (Array.getElem?_eq_some_iff.1 hg).1
 have gc:∀ {w':World},w.grownBy w' v.ownBlock->lh_ w w' (fun b=>cG_ v b≠0):=by
  intro w' h;refine ⟨h.os,h.tape,h.output,h.size,fun b hb hn=>h.block b hb fun e1=>hn ?_⟩;rcases p.2 with ⟨rfl,_⟩|⟨g,cap,cur,rfl,_⟩
  . simp [Value.ownBlock] at e1
  . simp only [Value.ownBlock,Option.some.injEq] at e1
    subst e1;simp [cG_]
 rcases hV with ⟨a,c,rfl,B⟩|⟨c,rfl,rfl⟩
 . obtain ⟨v',w',hr,h2,h3,h4⟩:=run_append_own (P:=P) w 0 t ty e i z i.size i.bytes U hi hz rfl rfl hzs hsz v n xs p a m c news hl B h1 h63 I (Nat.zero_le _)
   refine ⟨v',w',hr,h2,gc h3,fun b hb=>⟨?_,S h2 b hb⟩⟩;rcases p.2 with ⟨rfl,rfl⟩|⟨g,cap,cur,rfl,hbg,hg,Y,hcm,hcs,htake⟩
   . by_cases hm:m=0
     . rw [h4.2 ⟨rfl,hm⟩] at hb
       simp [cG_] at hb
     . have J:=run_append_nil (P:=P) w t ty e i z U hi hz a m c news hl B (by omega) (by omega) (by simp only [Nat.zero_add] at I;omega)
       rw [hr] at J;cases J;exact .inl (kh_ w (.cells #[] 0) _ _ b hb).1
   . by_cases O:n+m<=cap
     . have Z:n*i.size+news.length<=cur.size:=by rw [hl,hcs,<-Nat.add_mul];exact Nat.mul_le_mul_right _ O
       have J:=run_append_room (P:=P) w t ty e i U hi g n cap cur hg a m c news hl B h1 O Z;rw [hr] at J;cases J;exact .inr hb
     . have T:∀ j u,xs[j]?=some u->w.cell? ((⟨g,0,none⟩:Addr).add j)=some u:=p.cells (g:=g) rfl
       have J:=run_append_grow (P:=P) w t ty e i z U hi hz ⟨g,0,none⟩ n cap xs p.1 T a m c news hl B (by omega) (by omega) (growslice_fits (by omega) I);rw [hr] at J;cases J;exact .inl (kh_ w (.cells #[] 0) _ _ b hb).1
 . have hn:news=[]:=List.eq_nil_of_length_eq_zero (by simpa using hl)
   subst hn;refine ⟨v,w,?_,by rw [List.append_nil];exact p,⟨rfl,rfl,rfl,Nat.le_refl _,fun _ _ _=>rfl⟩,fun b hb=>⟨.inr hb,S p b hb⟩⟩;rcases p.2 with ⟨rfl,rfl⟩|⟨g,cap,cur,rfl,_,_,Y,_⟩
   . simp [Builtin.append_,run_underlying U,sizeOf,typeInfo,hi,Builtin.lenOf,Builtin.firstCells]
   . simp [Builtin.append_,run_underlying U,sizeOf,typeInfo,hi,Builtin.lenOf,Builtin.firstCells,Y,storeCells]
end
variable [aj_]
open aj_
variable {ω:Type}
variable {E:Env} {x:X} {w w':World} {G:ao_} {κ:X->AV->Option ω} {r:ω} {o:Oper} {α:Operand->Value}
theorem Goes.later {x0:X}{w0:World}{G0:ao_}(ev:Evo x w G x0 w0 G0){V w'}(h:Goes E κ r x0 w0 G0 V w'):Goes E κ r x w G V w':=by obtain ⟨x',G',v,p,e1,hM,k,m⟩:=h;exact ⟨x',G',v,p,ev.trans e1,hM,k,m⟩
omit [aj_] in
theorem meet_meet {m:M}(k:m ≠ .v)(ok:Bool):m.meet ok=M.meet .d ((match m with | .d=>true|_=>false)&&ok):=by cases m<;>cases ok<;>first|exact absurd rfl k|rfl
section
variable (hM:Mem E x w G)
include hM
theorem go_append [ai_]{T te q s y} (hT:E.P.underlying T=some (.slice (E.eid te))) (tc:TCok E te) (ho:o.op = .call { callee:=.builtin .append,args:=#[s,y],argTypes:=#[T,T] })
  {a v} (ha:RT E w x G a (α s)) (hau:Used x a.refsT) (hv:RT E w x G v (α y)) (h:hn_ te x q a v κ=some r):bO_ E o α κ r x w G:=by
 unfold hn_ at h;cases O:ms_ x v with
 |none=>rw [O] at h;cases h
 |some p=>
  obtain ⟨x1,t,ys,ok⟩:=p;rw [O] at h;simp only at h;by_cases hte:t=te
  . subst hte
    simp only [decide_true,cond_true] at h;obtain ⟨x0,G0,L,φ,vals,so⟩:=src_sound hM hv O;obtain ⟨i,z,zs,zc,hi,hz,B,J,hzs,hall,hone,hsims⟩:=tc.info;have hpos:0<t.width:=ai_.pos t;have hzw:z.cells.size=i.size:=by rw [hzs,B];simp;rw [<-hall.length,fZ_ (hsims .v),ai_.len]
    have hnl:vals.length=ys.length*i.size:=by rw [<-so.rl.length,fZ_ (so.sims .v),dY_,B]
    have hsv:(∃ a c,α y = .slice (some a) ys.length c/\∀ j u,vals[j]?=some u->w.cell? (a.add j)=some u)\/(∃ c,α y = .slice none 0 c/\ys.length=0):=by
     rcases so.val with h|⟨c,h,h0⟩
     . exact .inl h
     . exact .inr ⟨c,h,by rw [h0];rfl⟩
    have S:∀ {n:Nat}{k:Option ω},bj_ n t.bytes k=some r->n*t.bytes<=140737488355328/\n<=maxLen/\k=some r:=by
     intro n k h;unfold bj_ at h;by_cases hb:n*t.bytes<=140737488355328
     . have:=tc.pos
       have h2:n*1<=n*t.bytes:=Nat.mul_le_mul_left _ this;simp only [hb,decide_true,cond_true] at h;exact ⟨hb,by simp only [maxLen];omega,h⟩
     . simp [hb] at h
    have runs:∀ {V w'},(Builtin.append_ #[T,T] o.type #[α s,α y]).run E.P w = .ok V w'->Goes E κ r x w G V w'->bO_ E o α κ r x w G:=by intro V w' hr hg;refine bO_.value (V:=V) (w':=w') ?_ hg;unfold execOp;simp only [ho,resolve,invoke,builtin,Sem.run_bind,Sem.run_pure,Result.andThen_ok,List.map_toArray,List.map_cons,List.map_nil,hr]
    have ha0:=ha.evolve so.evo hau;cases a<;>simp only at h<;>(try (cases h;done))
    case nils=>
     obtain ⟨hb,hmx,h⟩:=S h;unfold X.new at h;cases hq:x1.u q with
     |true=>rw [hq] at h;cases h
     |false=>
      rw [hq] at h;have hnil:=ha.nils;have U:=World.ownsRow_nil w 0 (E.eid t) i.size;rw [<-hnil] at U;obtain ⟨v',w',hr,k1,k2,k3⟩:=gC_ (P:=E.P) w T o.type (E.eid t) i z hT hi hz hzw (by omega) _ _ _ U _ ys.length vals hnl hsv so.cell (by omega) (by rw [J];simpa using hb);refine runs hr (Goes.later so.evo ?_);have hno:∀ b,cG_ (α s) b=0:=fun b=>by rw [hnil];rfl
      refine Goes.arrC so.mem so.sub hq (C:=fun b=>cG_ (α s) b≠0) k2 (fun b hb=>absurd (hno b) hb) (te:=t) (xs:=ys) (sv:=v') (vals:=[]++vals) (L:=L) (φ:=φ) (ok:=ok) ?_ k3 so.rl (fun b _ hb=>hb (hno b)) so.okD so.one so.out so.sims h;rw [B] at k1;simpa using k1
    case rt q0=>
     cases Z:x1.h q0 with
     |none=>rw [Z] at h;cases h
     |some blk=>
      rw [Z] at h;cases blk with
      |box=>cases h
      |ext=>cases h
      |arr m t' st xs=>
       simp only at h;by_cases htt:t'=t
       . subst htt
         simp only [dite_true] at h;obtain ⟨hb,hmx,h⟩:=S h;unfold X.new at h;cases hq:(x1.blk q0 none).u q with
         |true=>rw [hq] at h;cases h
         |false=>
          rw [hq] at h;have I:=so.sub.1 q0 _ Z;obtain ⟨hm,how,ψ,hrl,hφ⟩:=so.mem.root q0 _ I;have hf:=ha0.rf (by intro cs e;cases e) (by intro cs e;cases e) (by intro f cs e;cases e);have hsv0:=hf.2 _ _ _ _ (.arr I);rw [<-hsv0] at how hφ;rw [<-B] at how;obtain ⟨v',w',hr,k1,k2,k3⟩:=gC_ (P:=E.P) w T o.type (E.eid t') i z hT hi hz hzw (by omega) _ _ _ how _ ys.length vals hnl hsv so.cell (by omega) (by rw [J];exact hb);refine runs hr (Goes.later so.evo ?_);have hS2:Sub (x1.blk q0 none) x0:=(Sub.kill x1 q0).trans so.sub;have Y:∀ b,so.mem.root q0 _ I=so.mem.root q0 _ I->G0.φ q0 b≠0->¬ Fof (x1.blk q0 none) G0 b:=by intro b _ hb ⟨r',blk,e1,e2⟩;have e3:=so.mem.sep q0 r' _ _ b I (hS2.1 _ _ e1) hb e2;subst e3;simp [X.blk,bd_] at e1
          have halive:∀ b,G0.φ q0 b≠0->Fof x1 G0 b:=fun b hb=>⟨q0,_,Z,hb⟩
          have hφ0:∀ b,φ b≠0->G0.φ q0 b=0:=fun b hb=>Classical.byContradiction fun h=>so.out b hb (halive b h);rw [meet_meet hm ok] at h;refine Goes.arrC so.mem hS2 hq (C:=fun b=>cG_ (α s) b≠0) k2 (fun b hb=>⟨⟨q0,_,I,by rw [hφ];omega⟩,Y b rfl (by rw [hφ];omega)⟩) (te:=t') (xs:=xs++ys) (sv:=v') (vals:=G0.vals q0++vals)
           (L:=aT_ m.sub t' xs++L) (φ:=fun b=>ψ b+φ b) ?_ k3 (hrl.append so.rl (fun b=>rfl)) (fun b hb hc => ?_) (fun hk => ?_) (fun b => ?_) (fun b hb => ?_) (fun m' => ?_) h
          . rw [B] at k1
            rw [List.length_append];exact k1
          . have hb:ψ b+φ b≠0:=hb
            have:=so.mem.one q0 _ b I;rw [hφ] at this;by_cases h0:φ b=0
            . omega
            . have:=hφ0 b h0;rw [hφ] at this;omega
          . simp only [Bool.and_eq_true] at hk
            rw [List.all_append,so.okD hk.2,Bool.and_true];cases m with
            |d=>exact tk_
            |s=>simp at hk
            |v=>simp at hk
          . show ψ b+φ b<=1
            have h2:=so.mem.one q0 _ b I;rw [hφ] at h2;have h3:=so.one b;by_cases h0:φ b=0
            . omega
            . have:=hφ0 b h0;rw [hφ] at this;omega
          . have hb:ψ b+φ b≠0:=hb
            by_cases h0:φ b=0
            . exact Y b rfl (by rw [hφ];omega)
            . exact fun hF=>so.out b h0 ((Sub.kill x1 q0).fof hF)
          . rw [cI_]
            exact hS_ (iy_ _ _ _ _) (so.sims m')
       . simp only [htt,dite_false] at h
         cases h
  . simp [hte] at h
end
end
section
variable [aj_]
open aj_
variable {ω:Type}
variable {E:Env} {x:X} {w w':World} {G:ao_} {κ:X->AV->Option ω} {r:ω} {o:Oper} {α:Operand->Value}
omit [aj_] in
theorem mU_ {e:TypeId}{size n:Nat}{v:Value}{vals:List Value}(k:w.ownsRow 0 e size v n vals):∃ a c,v = .slice a n c/\n<=c:=by
 rcases k.2 with ⟨rfl,rfl⟩|⟨g,cap,cur,rfl,_,_,m,_⟩
 . exact ⟨none,0,rfl,Nat.le_refl _⟩
 . exact ⟨_,cap,rfl,m⟩
theorem RL.sl_val {F:Nat->Prop}{m t ys v φ}(h:RL E w F [.sl m t ys] [v] φ):∃ a c,v = .slice a ys.length c/\ys.length<=c:=by
 cases h with
 |scal _ _ _ _ _ hs _=>exact hs.elim
 |view _ _ a n cap vals z _ _ _ hn=>exact ⟨a,cap,by rw [hn.1],by have:=hn.2;omega⟩
 |own _ _ _ _ vals φ₁ _ _ φ₂ _ hm how=>exact mU_ how
theorem pg_ [ai_](hM:Mem E x w G){q st i off t ys V} (U:RF E w x G (.ns q st i off t ys) V) {m t' xs} (hq:x.h q=some (.arr m t' st xs)) :
  ∃ φ,RL E w (Fof x G) [.sl m.sub t ys] [V] φ/\(m.sub = .v->∀ b,φ b=0)/\∀ b,φ b≠0->G.φ q b≠0:=by
 obtain ⟨_,hr,_⟩:=U;obtain ⟨_,T⟩:=hr _ _ _ _ hq;obtain ⟨hi,hc,z⟩:=T rfl;obtain ⟨hm,Y,ψ,O,hφ⟩:=hM.root q _ hq;obtain ⟨us,vs,ws,φ₁,φ₂,φ₃,p,S,Z,k1,k2,k3,he⟩:=O.row hi;have I:off<t'.width:=by
  have:=(List.getElem?_eq_some_iff.1 hc).1
  rwa [ai_.len] at this
 have B:vs[off]?=some V:=by
  rw [p,List.append_assoc,List.getElem?_append_right (by omega),S,List.getElem?_append_left (by omega)] at z
  rwa [show i*t'.width+off - i*t'.width=off by omega] at z
 have J:(enc m.sub t' (xs.getD i (El.dflt t')))[off]?=some (.sl m.sub t ys):=by
  have e1:(enc m.sub t' (xs.getD i (El.dflt t'))).map AV.asView=(enc .d t' (xs.getD i (El.dflt t'))).map AV.asView:=by rw [ai_.view,ai_.view]
  have e2:=congrArg (fun l=>l[off]?) e1;simp only [List.getElem?_map,hc,Option.map_some] at e2;cases e3:(enc m.sub t' (xs.getD i (El.dflt t')))[off]? with
  |none=>rw [e3] at e2;cases e2
  |some a=>
   rw [e3] at e2;simp only [Option.map_some,Option.some.injEq] at e2;rcases ai_.cell m.sub _ _ a (List.mem_of_getElem? e3) with ⟨_,_,rfl⟩|⟨_,rfl⟩|⟨_,rfl⟩|⟨t2,zs,rfl⟩
   . cases e2
   . cases e2
   . cases e2
   . simp only [AV.asView] at e2
     cases e2;rfl
 have k:enc m.sub t' (xs.getD i (El.dflt t'))=(enc m.sub t' (xs.getD i (El.dflt t'))).take off++(.sl m.sub t ys::(enc m.sub t' (xs.getD i (El.dflt t'))).drop (off+1)):=by
  have h5:off<(enc m.sub t' (xs.getD i (El.dflt t'))).length:=by rw [ai_.len];exact I
  have h6:(enc m.sub t' (xs.getD i (El.dflt t')))[off] = .sl m.sub t ys:=by rw [List.getElem?_eq_getElem h5] at J;exact Option.some.inj J
  rw [<-h6,List.getElem_cons_drop,List.take_append_drop]
 rw [k] at k2;obtain ⟨us1,us2,ψ₁,ψ₂,rfl,j1,j2,e1⟩:=RL.split k2;obtain ⟨u,us3,ψ₃,ψ₄,rfl,j3,j4,e2⟩:=RL.uncons j2;have hl:us1.length=off:=by rw [<-j1.length,List.length_take,ai_.len];omega
 have:u=V:=by rw [List.getElem?_append_right (by omega),hl,Nat.sub_self] at B;simpa using B
 subst this;refine ⟨ψ₃,j3,fun hs b => ?_,fun b hb => ?_⟩
 . rw [hs] at j3
   exact RL.vzero j3 b
 . have h1:=he b;have T:=e1 b;have h3:=e2 b
   rw [hφ];omega
structure TTok (E:Env) (T:TypeId) (ty:Option TD):Prop where
 ok:∀ td,ty=some td->TDok E T td
omit [aj_] in
theorem jh_ {T ty t}(h:TTok E T ty){k:Option ω}(m:jN_ ty t k=some r):E.P.underlying T=some (.slice (E.eid t))/\k=some r:=by
 unfold jN_ at m;split at m
 . rename_i td
   split at m
   . rename_i te p
     by_cases e:t=te
     . subst e
       simp only [decide_true,cond_true] at m;exact ⟨(h.ok td rfl).elem _ p,m⟩
     . simp [e] at m
   . cases m
 . cases m
omit [aj_] in
theorem qj_ {T ty}(h:TTok E T ty){β:Type}{k:Option β}{b:β}(m:slB ty k=some b):∃ e,E.P.underlying T=some (.slice e)/\k=some b:=by
 unfold slB at m;split at m
 . rename_i td
   split at m
   . rename_i te p
     exact ⟨_,(h.ok td rfl).elem _ p,m⟩
   . cases m
 . cases m
omit [aj_] in
theorem strB_ok {T ty}(h:TTok E T ty){β:Type}{k:Option β}{b:β}(m:strB ty k=some b):E.P.underlying T=some .string/\k=some b:=by
 unfold strB at m;split at m
 . rename_i td
   cases hs:td.isStr with
   |true=>rw [hs] at m;exact ⟨(h.ok td rfl).str hs,m⟩
   |false=>rw [hs] at m;cases m
 . cases m
omit [aj_] in
theorem on_ {n:Int}{len:Nat}{k:Option ω}(h:inB n len k=some r):0<=n/\n<len/\k=some r:=by
 unfold inB at h;by_cases m:0<=n
 . by_cases p:n<len
   . simp only [m,p,decide_true,cond_true] at h;exact ⟨m,p,h⟩
   . simp [m,p] at h
 . simp [m] at h
theorem sW_ [ai_](hM:Mem E x w G){T ty a V n}(J:TTok E T ty)(I:RT E w x G a V)(h:lenOf ty x a=some n) :
  (∃ l,a = .s l/\l.length=n/\V = .string ⟨l.toArray⟩/\E.P.underlying T=some .string)\/∃ e p c,V = .slice p n c/\n<=c/\E.P.underlying T=some (.slice e):=by
 cases a<;>simp only [lenOf] at h<;>(try (cases h;done))
 case s l=>
  obtain ⟨u,k⟩:=strB_ok J h;exact .inl ⟨l,rfl,by simpa using k,I.s,u⟩
 case nils=>
  obtain ⟨e,u,k⟩:=qj_ J h;cases k;exact .inr ⟨e,none,0,I.nils,Nat.le_refl _,u⟩
 case sl m t xs=>
  cases m<;>simp only at h<;>(try (cases h;done));obtain ⟨e,u,k⟩:=qj_ J h;cases k;have z:=I.rf (by intro cs e;cases e) (by intro cs e;cases e) (by intro f cs e;cases e);obtain ⟨p,c,B,hc⟩:=RL.sl_val z;exact .inr ⟨e,p,c,B,hc,u⟩
 case rt q=>
  cases hq:x.h q with
  |none=>rw [hq] at h;cases h
  |some blk=>
   rw [hq] at h;cases blk with
   |box=>cases h
   |ext=>cases h
   |arr m t st xs=>
    obtain ⟨e,u,k⟩:=qj_ J h;cases k;have z:=I.rf (by intro cs e;cases e) (by intro cs e;cases e) (by intro f cs e;cases e);obtain ⟨hm,S,_⟩:=hM.root q _ hq;obtain ⟨p,c,B,hc⟩:=mU_ S;exact .inr ⟨e,p,c,(z.2 _ _ _ _ (.arr hq)).trans B,hc,u⟩
 case sr q lo hi=>
  cases hq:x.h q with
  |none=>rw [hq] at h;cases h
  |some blk=>
   rw [hq] at h;cases blk with
   |box=>cases h
   |ext=>cases h
   |arr m t st xs=>
    obtain ⟨e,u,k⟩:=qj_ J h;cases k;have z:=I.rf (by intro cs e;cases e) (by intro cs e;cases e) (by intro f cs e;cases e);obtain ⟨p,n,c,p',c',Z,hlh,hhi,U,B,Y⟩:=z.2 _ _ _ _ (.arr hq);exact .inr ⟨e,p',c',B,U,u⟩
 case ns q st i off t ys=>
  cases hq:x.h q with
  |none=>rw [hq] at h;cases h
  |some blk=>
   rw [hq] at h;cases blk with
   |box=>cases h
   |ext=>cases h
   |arr m t' st' xs=>
    simp only at h;cases hb:Nat.beq st st' with
    |false=>rw [hb] at h;cases h
    |true=>
     rw [hb] at h;obtain rfl:=Nat.eq_of_beq_eq_true hb;obtain ⟨e,u,k⟩:=qj_ J h;cases k;have z:=I.rf (by intro cs e;cases e) (by intro cs e;cases e) (by intro f cs e;cases e);obtain ⟨φ,O,_,_⟩:=pg_ hM z hq;obtain ⟨p,c,B,hc⟩:=RL.sl_val O;exact .inr ⟨e,p,c,B,hc,u⟩
end
section
variable [aj_]
open aj_
variable {ω:Type}
variable {E:Env} {x:X} {w w':World} {G:ao_} {κ:X->AV->Option ω} {r:ω} {o:Oper} {α:Operand->Value}
omit [aj_] in
theorem gc_ {P:Program}{T e:TypeId}{i:TypeInfo} (m:P.underlying T=some (.slice e)) (hi:P.info? e=some i) {a:Addr} {n c:Nat} {k:IntKind} {j:Int} (u:0<=j) (p:j<n) :
  (Instr.indexAt T (.slice (some a) n c) (.int k j)).run P w = .ok (.pointer (some (a.add (j.toNat*i.size)))) w:=by
 simp [Instr.indexAt,asIntOf,run_underlying m,sizeOf,typeInfo,hi,u,p]
theorem rt_pc [ai_]{b o':Nat}{cs:List AV}{vals:List Value}{z:Nat->Nat}(off:Nat) (u:RL E w (Fof x G) cs vals z) (m:∀ b,z b=0) (hr:w.rangeAt b o' vals) (k:b<w.heap.size) (p:¬ Fof x G b) :
  RT E w x G (.pc cs off) (.pointer (some ⟨b,o'+off,none⟩)) :=
 .flat _ _ (.inl (RL.pc cs b o' off vals z _ _ _ u m hr k p (.nil _ fun _=>rfl)))
section
variable (hM:Mem E x w G)
include hM
theorem go_len [ai_]{T a v n}{ty}(z:TTok E T ty)(B:o.op = .call { callee:=.builtin .len,args:=#[a],argTypes:=#[T] }) (u:RT E w x G v (α a)) (h:lenOf ty x v=some n) (I:κ x (.i .i64 (n:Int))=some r):bO_ E o α κ r x w G:=by
 refine bO_.value (V:=.int .i64 n) (w':=w) ?_ (Goes.same hM I (RT.scl rfl) cx_);have hr:(Builtin.len_ #[T] o.type #[α a]).run E.P w = .ok (.int .i64 n) w:=by
  rcases sW_ hM z u h with ⟨l,rfl,hl,k,m⟩|⟨e,p,c,k,_,m⟩
  . rw [k]
    simp [Builtin.len_,run_underlying m,goInt,<-hl]
    rfl
  . rw [k]
    simp [Builtin.len_,run_underlying m,goInt]
 unfold execOp;simp only [B,resolve,invoke,builtin,Sem.run_bind,Sem.run_pure,Result.andThen_ok,List.map_toArray,List.map_cons,List.map_nil,hr]
omit hM in
theorem n3_ [ai_]{T t}{ys:List (El t)}{V} (Y:E.P.underlying T=some (.slice (E.eid t))) (tc:TCok E t) (U:RL E w (Fof x G) [.sl .v t ys] [V] (fun _=>0)) {k:IntKind} {n:Int} (h0:0<=n) (h1:n<ys.length) :
  ∃ P,(Instr.indexAt T V (.int k n)).run E.P w = .ok P w/\RT E w x G (.pc (enc .v t (ys.getD n.toNat (El.dflt t))) 0) P:=by
 obtain ⟨i,z,zs,zc,hi,hz,p,_⟩:=tc.info;cases U with
 |scal _ _ _ _ _ hs _=>exact hs.elim
 |own _ _ _ _ _ _ _ _ _ _ hm=>exact absurd rfl hm
 |view _ _ a len cap vals z' _ _ _ hn h2 I hb _=>
  obtain ⟨b,o',rfl,hr,J,Z⟩:=hb (by have:=hn.1;omega);refine ⟨_,gc_ Y hi h0 (by rw [hn.1];exact h1),?_⟩;have u:n.toNat<ys.length:=by omega
  obtain ⟨us,vs,ws,φ₁,φ₂,φ₃,m,B,O,k1,k2,k3,he⟩:=h2.row u;rw [Addr.add_mid,p];refine rt_pc 0 k2 (fun b=>by have:=he b;rw [I] at this;omega) ?_ J Z;have S:=ee_ hr (n.toNat*t.width) t.width;rw [m,List.append_assoc,<-B,List.drop_left,<-O,List.take_left] at S
  rwa [B] at S
theorem qP_ [ai_]{T a ix v k n}{ty}(ht:TTok E T ty)(tcs:∀ t,TCok E t)(ho:o.op = .indexAddr T a ix) (hv:RT E w x G v (α a)) (hau:Used x v.refsT) (hi:α ix = .int k n) (h:indexAt ty x v n κ=some r):bO_ E o α κ r x w G:=by
 have J:∀ {V w'},(Instr.indexAt T (α a) (.int k n)).run E.P w = .ok V w'->Goes E κ r x w G V w'->bO_ E o α κ r x w G:=fun hr hg=>bO_.value (by simp [execOp,ho,hi,hr]) hg;cases v<;>simp only [indexAt] at h<;>(try (cases h;done))
 case sl m t xs=>
  cases m<;>simp only at h<;>(try (cases h;done));obtain ⟨Y,h⟩:=jh_ ht h;obtain ⟨h0,Z,h⟩:=on_ h;have U:=hv.rf (by intro cs e;cases e) (by intro cs e;cases e) (by intro f cs e;cases e);obtain ⟨P,hr,hp⟩:=n3_ Y (tcs t) U (k:=k) h0 Z;exact J hr (Goes.same hM h hp cx_)
 case rt q=>
  cases hq:x.h q with
  |none=>rw [hq] at h;cases h
  |some blk=>
   rw [hq] at h;cases blk with
   |box=>cases h
   |ext qq=>
    cases qq with
    |none=>cases h
    |some qq=>
    obtain ⟨m,t,st,i0,xs⟩:=qq;simp only at h;obtain ⟨Y,h⟩:=jh_ ht h;obtain ⟨h0,Z,h⟩:=on_ h;have U:=hv.rf (by intro cs e;cases e) (by intro cs e;cases e) (by intro f cs e;cases e);obtain ⟨hm,_,how,_⟩:=hM.root q _ hq;have S:=U.2 _ _ _ _ (.hol hq);obtain ⟨i,z,zs,zc,I,O,u,_⟩:=(tcs t).info;rcases how.2 with ⟨_,e0⟩|⟨g,cap,cur,e1,_⟩
    . omega
    . refine J (by rw [S,e1];exact gc_ Y I h0 Z) (Goes.same hM h (.flat _ _ (.inl ⟨rfl,fun m' t' st' xs' B => ?_⟩)) ?_)
      . cases B with
        |arr e=>rw [hq] at e;cases e
        |hol e=>
         rw [hq] at e;cases e;exact ⟨by omega,g,_,_,e1,by rw [Addr.add_mid,u];simp⟩
      . intro z O
        simp only [AV.refsT,AV.refsD,AV.refs,List.mem_singleton] at O;subst O;exact hM.used _ _ hq
   |arr m t st xs=>
    obtain ⟨Y,h⟩:=jh_ ht h;obtain ⟨h0,Z,h⟩:=on_ h;have U:=hv.rf (by intro cs e;cases e) (by intro cs e;cases e) (by intro f cs e;cases e);obtain ⟨hm,how,_⟩:=hM.root q _ hq;have S:=U.2 _ _ _ _ (.arr hq);obtain ⟨i,z,zs,zc,I,O,u,_⟩:=(tcs t).info;rcases how.2 with ⟨_,e0⟩|⟨g,cap,cur,e1,_⟩
    . omega
    . refine J (by rw [S,e1];exact gc_ Y I h0 Z) (Goes.same hM h (.flat _ _ (.inl ⟨rfl,fun m' t' st' xs' B => ?_⟩)) ?_)
      . replace B:=B.known hq
        rw [hq] at B;cases B;exact ⟨by omega,g,_,_,e1,by rw [Addr.add_mid,u];simp⟩
      . intro z O
        simp only [AV.refsT,AV.refsD,AV.refs,List.mem_singleton] at O;subst O;exact hM.used _ _ hq
 case sr q lo I=>
  cases hq:x.h q with
  |none=>rw [hq] at h;cases h
  |some blk=>
   rw [hq] at h;cases blk with
   |box=>cases h
   |ext=>cases h
   |arr m t st xs=>
    obtain ⟨Y,h⟩:=jh_ ht h;obtain ⟨h0,Z,h⟩:=on_ h;have U:=hv.rf (by intro cs e;cases e) (by intro cs e;cases e) (by intro f cs e;cases e);obtain ⟨p,n',c,p',c',S,hlh,hhi,hcc,hV,hpos⟩:=U.2 _ _ _ _ (.arr hq);obtain ⟨i,z,zs,zc,I,O,u,_⟩:=(tcs t).info;obtain ⟨g,rfl,rfl⟩:=hpos (by omega);refine J (by rw [hV];exact gc_ Y I h0 Z) (Goes.same hM h (.flat _ _ (.inl ⟨rfl,fun m' t' st' xs' B => ?_⟩)) ?_)
    . replace B:=B.known hq
      rw [hq] at B;cases B;refine ⟨by omega,g,_,_,S,?_⟩;rw [Addr.add_mid,u,Nat.add_mul,Nat.add_zero]
    . intro z O
      simp only [AV.refsT,AV.refsD,AV.refs,List.mem_singleton] at O;subst O;exact hM.used _ _ hq
 case ns q st i off t ys=>
  cases hq:x.h q with
  |none=>rw [hq] at h;cases h
  |some blk=>
   rw [hq] at h;cases blk with
   |box=>cases h
   |ext=>cases h
   |arr m t' st' xs=>
    simp only at h;cases hb:Nat.beq st st' with
    |false=>rw [hb] at h;cases h
    |true=>
     rw [hb] at h;obtain rfl:=Nat.eq_of_beq_eq_true hb;obtain ⟨Y,h⟩:=jh_ ht h;obtain ⟨h0,Z,h⟩:=on_ h;have hm:m ≠ .v:=(hM.root q _ hq).1;obtain ⟨G',ev,hM',esv,evals⟩:=hM.demote hq false (fun _=>.inr trivial);have hv':=hv.evolve ev hau;have U:=hv'.rf (by intro cs e;cases e) (by intro cs e;cases e) (by intro f cs e;cases e);obtain ⟨φ,hrl,h00,_⟩:=pg_ hM' U (bd_ _ _ _);have hsub:(m.meet false).sub = .v:=by
      rcases M.meet_sub hm false with ⟨_,h,_⟩|h
      . cases h
      . exact h
     rw [hsub] at hrl;obtain ⟨P,hr,hp⟩:=n3_ Y (tcs t) (hrl.congr (h00 hsub)) (k:=k) h0 Z;exact J hr (Goes.later ev (Goes.same hM' h hp cx_))
end
end
section
variable [aj_]
open aj_
variable {ω:Type}
variable {E:Env} {x:X} {w w':World} {G:ao_} {κ:X->AV->Option ω} {r:ω} {o:Oper} {α:Operand->Value}
omit [aj_] in
theorem rY_ {lo hi:Int}{len:Nat}{k:Option ω}(h:fF_ lo hi len k=some r):0<=lo/\lo<=hi/\hi<=len/\k=some r:=by
 unfold fF_ at h;by_cases m:0<=lo
 . by_cases p:lo<=hi
   . by_cases u:hi<=len
     . simp only [m,p,u,decide_true,cond_true] at h;exact ⟨m,p,u,h⟩
     . simp [m,p,u] at h
   . simp [m,p] at h
 . simp [m] at h
def jV_ (v:Option Value)(d:Nat)(n:Int):Prop:=match v with
 |none=>n=d
 |some u=>∃ k,u = .int k n
def OptRT (E:Env)(w:World)(x:X)(G:ao_):Option AV->Option Value->Prop
 |none,none=>True
 |some a,some u=>RT E w x G a u
 |_,_=>False
theorem oB_ {v:Option AV}{V:Option Value}{d:Nat}{n:Int}(h:h3_ v d=some n)(k:OptRT E w x G v V):jV_ V d n:=by
 cases v with
 |none=>
  cases V with
  |none=>simp only [h3_,Option.some.injEq] at h;exact h.symm
  |some=>exact k.elim
 |some a=>
  cases V with
  |none=>exact k.elim
  |some u=>
   cases a<;>simp only [h3_] at h<;>(try (cases h;done));simp only [Option.some.injEq] at h;subst h;exact ⟨_,RT.i k⟩
omit [aj_] in
theorem hf_ {P:Program}{s:Bool}{len cap:Nat}{lo hi:Option Value}{l h:Int}(p:jV_ lo 0 l)(m:jV_ hi len h)(B:0<=l)(z:l<=h)(O:h<=len)(J:len<=cap) :
  (Instr.sliceBounds s len cap lo hi none).run P w = .ok (l.toNat,h.toNat,cap) w:=by
 have I:(h.toNat:Int)=h:=Int.toNat_of_nonneg (by omega);cases lo with
 |none=>
  have hl:l=0:=p;subst hl;cases hi with
  |none=>have e:h=len:=m;subst e;simp [Instr.sliceBounds]
  |some u=>obtain ⟨k,rfl⟩:=m;simp [Instr.sliceBounds,run_sliceBound,show 0<=h by omega,show h<=cap by omega]
 |some u=>
  obtain ⟨k,rfl⟩:=p;cases hi with
  |none=>have e:h=len:=m;subst e;simp [Instr.sliceBounds,run_sliceBound,B,z]
  |some u=>obtain ⟨k',rfl⟩:=m;simp [Instr.sliceBounds,run_sliceBound,B,z,I,show 0<=h by omega,show h<=cap by omega]
omit [aj_] in
theorem nO_ {P:Program}{T e:TypeId}{i:TypeInfo} (u:P.underlying T=some (.slice e)) (m:P.info? e=some i) {a:Option Addr} {len cap:Nat} {lo hi:Option Value} {l h:Int} (k:jV_ lo 0 l) (p:jV_ hi len h) (J:0<=l) (I:l<=h) (B:h<=len) (z:len<=cap) :
  (Instr.sliceAt T (.slice a len cap) lo hi none).run P w = .ok (sliced a l.toNat h.toNat cap i.size) w:=by
 simp [Instr.sliceAt,Instr.slice,run_underlying u,hf_ k p J I B z,sizeOf,typeInfo,m,sliced]
omit [aj_] in
theorem mI_ {P:Program}{T:TypeId}(p:P.underlying T=some .string){s:ByteArray}{lo hi:Option Value}{l h:Int}(k:jV_ lo 0 l)(m:jV_ hi s.size h)(B:0<=l)(z:l<=h)(u:h<=s.size) :
  (Instr.sliceAt T (.string s) lo hi none).run P w = .ok (.string (s.extract l.toNat h.toNat)) w:=by
 simp [Instr.sliceAt,Instr.slice,run_underlying p,hf_ k m B z u (Nat.le_refl _)]
omit [aj_] in
theorem qV_ (l:List UInt8)(a b:Nat):(ByteArray.mk l.toArray).extract a b=⟨((l.take b).drop a).toArray⟩:=by apply ByteArray.ext;rw [ByteArray.data_extract];apply Array.toList_inj.1;simp [List.extract,List.drop_take]
section
variable (hM:Mem E x w G)
include hM
theorem go_slice [ai_]{T a lo hi v vlo vhi}{ty}(ht:TTok E T ty)(tcs:∀ t,TCok E t)(ho:o.op = .slice T a lo hi none) (hv:RT E w x G v (α a)) (hau:Used x v.refsT)
  (hlo:OptRT E w x G vlo (lo.map α)) (hhi:OptRT E w x G vhi (hi.map α))
  (h:hr_ ty x v vlo vhi (κ x)=some r):bO_ E o α κ r x w G:=by
 unfold hr_ at h;cases I:lenOf ty x v with
 |none=>rw [I] at h;cases h
 |some len=>
  rw [I] at h;simp only at h;cases hl:h3_ vlo 0 with
  |none=>rw [hl] at h;cases h
  |some l=>
   cases hh:h3_ vhi len with
   |none=>rw [hl,hh] at h;cases h
   |some hb=>
    rw [hl,hh] at h;simp only at h;have bl:=oB_ hl hlo;have bh:=oB_ hh hhi;have O:∀ {V w'},(Instr.sliceAt T (α a) (lo.map α) (hi.map α) none).run E.P w = .ok V w'->Goes E κ r x w G V w'->bO_ E o α κ r x w G:=fun hr hg=>bO_.value (by simp [execOp,ho,hr]) hg;rcases sW_ hM ht hv I with ⟨s,rfl,hsl,J,hT⟩|⟨e,p,c,J,hc,hT⟩
    . simp only at h
      subst hsl;obtain ⟨c0,c1,c2,hk⟩:=rY_ h;refine O (by rw [J];exact mI_ hT bl (by simpa [ByteArray.size] using bh) c0 c1 (by simpa [ByteArray.size] using c2)) (Goes.same hM hk (RT.scl ?_) cx_);show Value.string _=Value.string _;rw [qV_]
    . have Y:∀ {t:TC}{κ':Option ω},jN_ ty t (fF_ l hb len κ')=some r->0<=l/\l<=hb/\hb<=len/\κ'=some r/\(Instr.sliceAt T (α a) (lo.map α) (hi.map α) none).run E.P w = .ok (sliced p l.toNat hb.toNat c t.width) w:=by
       intro t κ' h;obtain ⟨hT',h⟩:=jh_ ht h;obtain ⟨c0,c1,c2,h⟩:=rY_ h;obtain ⟨i,z,zs,zc,hi',U,Z,_⟩:=(tcs t).info;refine ⟨c0,c1,c2,h,?_⟩;rw [J,<-Z];exact nO_ hT' hi' bl bh c0 c1 c2 hc
      cases v<;>(try simp only at h)<;>(try (cases h;done))
      case s s=>
       rw [hv.s] at J;cases J
      case sl m t xs=>
       cases m<;>simp only at h<;>(try (cases h;done));obtain ⟨c0,c1,c2,hk,hr⟩:=Y h;refine O hr (Goes.same hM hk ?_ cx_);have hf:=hv.rf (by intro cs e;cases e) (by intro cs e;cases e) (by intro f cs e;cases e);rw [J] at hf;cases hf with
       |scal _ _ _ _ _ hs _=>exact hs.elim
       |own _ _ _ _ _ _ _ _ _ _ hm=>exact absurd rfl hm
       |view _ _ _ _ _ vals z _ _ _ hn h1 U hb' _=>
        have hl2:hb.toNat<=xs.length:=by have:=hn.1;omega
        have hp:=h1.rows_part U (show l.toNat<=hb.toNat by omega) hl2;have hcl:l.toNat<hb.toNat->¬ c=l.toNat:=by intro h;omega
        have hpl:0<hb.toNat - l.toNat->0<len/\l.toNat<hb.toNat:=by intro h;omega
        refine .flat _ _ (.inl (RL.view t _ _ _ _ _ _ _ _ _ ⟨by rw [List.length_drop,List.length_take];omega,by omega⟩ hp (fun _=>rfl) (fun B => ?_) (.nil _ fun _=>rfl)));obtain ⟨b,o',rfl,hr',S,hF⟩:=hb' (hpl B).1;have:=hcl (hpl B).2;refine ⟨b,o'+l.toNat*t.width,by rw [if_neg this];simp [Addr.add_mid],ee_ hr' _ _,S,hF⟩
      case rt q=>
       cases hq:x.h q with
       |none=>rw [hq] at h;cases h
       |some blk=>
        rw [hq] at h;cases blk with
        |box=>cases h
        |ext=>cases h
        |arr m t st xs=>
         obtain ⟨c0,c1,c2,hk,hr⟩:=Y h;have hf:=hv.rf (by intro cs e;cases e) (by intro cs e;cases e) (by intro f cs e;cases e);have u:=hf.2 _ _ _ _ (.arr hq);obtain ⟨hm,how,_⟩:=hM.root q _ hq;have hlx:len=xs.length:=by rw [J] at u;obtain ⟨p',c',e1,_⟩:=mU_ how;rw [e1] at u;cases u;rfl
         refine O hr (Goes.same hM hk (.flat _ _ (.inl ⟨rfl,fun m' t' st' xs' k => ?_⟩)) ?_)
         . replace k:=k.known hq
           rw [hq] at k;cases k;refine ⟨p,len,c,_,_,by rw [<-u,J],by omega,by omega,by omega,rfl,fun S => ?_⟩;rcases how.2 with ⟨_,e0⟩|⟨g,cap,cur,e1,_⟩
           . omega
           . rw [<-u,J] at e1
             cases e1;have:¬ c=l.toNat:=by omega
             exact ⟨g,rfl,by rw [if_neg this];simp [Addr.add_mid]⟩
         . intro z U
           simp only [AV.refsT,AV.refsD,AV.refs,List.mem_singleton] at U;subst U;exact hM.used _ _ hq
      case sr q lo' hi'=>
       cases hq:x.h q with
       |none=>rw [hq] at h;cases h
       |some blk=>
        rw [hq] at h;cases blk with
        |box=>cases h
        |ext=>cases h
        |arr m t st xs=>
         obtain ⟨c0,c1,c2,hk,hr⟩:=Y h;have hf:=hv.rf (by intro cs e;cases e) (by intro cs e;cases e) (by intro f cs e;cases e);obtain ⟨p0,n0,cc,p',c',u,hlh,hhi',hcc,hV',B⟩:=hf.2 _ _ _ _ (.arr hq);rw [J] at hV';cases hV';refine O hr (Goes.same hM hk (.flat _ _ (.inl ⟨rfl,fun m' t' st' xs' k => ?_⟩)) ?_)
         . replace k:=k.known hq
           rw [hq] at k;cases k;have e2:lo'+hb.toNat - (lo'+l.toNat)=hb.toNat - l.toNat:=by omega
           refine ⟨p0,n0,cc,_,c - l.toNat,u,by omega,by omega,by rw [e2];omega,by rw [e2];rfl,fun S => ?_⟩;have hlt':lo'+l.toNat<lo'+hb.toNat:=S;have hgt:lo'<hi':=by omega
           obtain ⟨g,e3,rfl⟩:=B hgt;have:¬ c=l.toNat:=by omega
           exact ⟨g,e3,by rw [if_neg this];simp [Addr.add_mid,Nat.add_mul]⟩
         . intro z U
           simp only [AV.refsT,AV.refsD,AV.refs,List.mem_singleton] at U;subst U;exact hM.used _ _ hq
end
end
section
theorem fill_set (cur us:List Value)(off:Nat)(h:off+us.length<=cur.length) :
  us.toArray.zipIdx.foldl (fun cs (x:Value×Nat)=>cs.setIfInBounds (off+x.2) x.1) cur.toArray=(cur.take off++us++cur.drop (off+us.length)).toArray:=by
 obtain ⟨g1,g2⟩:=Great.foldl_set off us 0 cur.toArray;have e:us.toArray.zipIdx.foldl (fun cs (x:Value×Nat)=>cs.setIfInBounds (off+x.2) x.1) cur.toArray=(us.zipIdx 0).foldl (fun cs (x:Value×Nat)=>cs.setIfInBounds (off+x.2) x.1) cur.toArray:=by rw [<-Array.foldl_toList,Array.toList_zipIdx]
 rw [e];apply Array.ext_getElem?;intro k;rw [g2 k];simp only [Nat.add_zero,List.size_toArray,List.getElem?_toArray];by_cases p:k<off
 . rw [if_neg (by omega),List.append_assoc,List.getElem?_append_left (by rw [List.length_take];omega),List.getElem?_take_of_lt p]
 . by_cases m:k<off+us.length
   . rw [if_pos ⟨by omega,m,by omega⟩,List.append_assoc,List.getElem?_append_right (by rw [List.length_take];omega),List.length_take,Nat.min_eq_left (by omega),List.getElem?_append_left (by omega)]
   . rw [if_neg (by omega),List.append_assoc,List.getElem?_append_right (by rw [List.length_take];omega),List.length_take,Nat.min_eq_left (by omega),List.getElem?_append_right (by omega),List.getElem?_drop]
     congr 1;omega
variable [aj_]
open aj_
variable {ω:Type}
variable {E:Env} {x:X} {w w':World} {G:ao_} {κ:X->AV->Option ω} {r:ω} {o:Oper} {α:Operand->Value}
def pV_ (E:Env)(w:World)(x:X)(G:ao_):List (Nat×AV)->List (Nat×Value)->Prop
 |[],[]=>True
 |(i,a)::l,(j,v)::r=>i=j/\RT E w x G a v/\pV_ E w x G l r
 |_,_=>False
theorem fill_ok {fields:List (Nat×Nat)}{place:Nat->Option (Nat×Nat)} (z:∀ (i off n:Nat),fields[i]?=some (off,n)->place i=some (off,n)):∀ (l:List (Nat×AV)) (vs:List (Nat×Value)) (cs:List AV) (us:List Value) (cs':List AV),
  pV_ E w x G l vs->AllF (RF E w x G) cs us->fill fields cs l=some cs'->∃ us',Instr.fill place us.toArray vs=some (List.toArray us')/\AllF (RF E w x G) cs' us'
 |[],[],cs,us,cs',_,k,h=>by simp only [fill,Option.some.injEq] at h;subst h;exact ⟨us,rfl,k⟩
 |(i,a)::l,(j,v)::vs,cs,us,cs',⟨hij,J,hl⟩,k,h=>by
  subst hij;simp only [fill] at h;cases u:fields[i]? with
  |none=>rw [u] at h;cases h
  |some p=>
   obtain ⟨off,n⟩:=p;rw [u] at h;simp only at h;cases hc:(Nat.beq a.cells.length n&&a.cells.all AV.one&&Nat.ble (off+n) cs.length) with
   |false=>rw [hc] at h;cases h
   |true=>
    rw [hc] at h;simp only [cond_true] at h;simp only [Bool.and_eq_true] at hc;obtain ⟨⟨c1,c2⟩,c3⟩:=hc;have c1:=Nat.eq_of_beq_eq_true c1;have c3:=Nat.le_of_ble_eq_true c3;obtain ⟨ws,ew,m⟩:=J.cells c2;have I:ws.length=n:=m.len.trans c1;have B:us.length=cs.length:=k.len;have O:=k.setRange off m (by omega);obtain ⟨us',e1,e2⟩:=fill_ok z l vs _ _ cs' hl O h;refine ⟨us',?_,e2⟩;unfold Instr.fill;rw [z i off n u];simp only;rw [ew];rw [if_neg (by simp;omega)];rw [fill_set us ws off (by omega)];exact e1
 |[],_::_,_,_,_,h,_,_=>h.elim
 |_::_,[],_,_,_,h,_,_=>h.elim
def rb_ (x:X) (l:List (Nat×AV)):Prop:=∀ p ∈ l,Used x p.2.refsT
omit [aj_] in
theorem qU_:∀ (fields:List (Nat×Nat)) (l:List (Nat×AV)) (cs cs':List AV),rb_ x l->Used x (cs.flatMap AV.refs)->fill fields cs l=some cs'->Used x (cs'.flatMap AV.refs)
 |fields,[],cs,cs',_,hu,h=>by simp only [fill,Option.some.injEq] at h;subst h;exact hu
 |fields,(i,a)::l,cs,cs',I,hu,h=>by
  simp only [fill] at h;cases J:fields[i]? with
  |none=>rw [J] at h;cases h
  |some p=>
   obtain ⟨off,n⟩:=p;rw [J] at h;simp only at h;cases hc:(Nat.beq a.cells.length n&&a.cells.all AV.one&&Nat.ble (off+n) cs.length) with
   |false=>rw [hc] at h;cases h
   |true=>
    rw [hc] at h;simp only [cond_true] at h;simp only [Bool.and_eq_true] at hc;refine qU_ fields l _ cs' (fun p m=>I p (List.mem_cons_of_mem _ m)) ?_ h;intro z O;obtain ⟨c,u,k⟩:=List.mem_flatMap.1 O;rcases iz_ _ _ _ _ u with B|B
    . exact hu z (List.mem_flatMap.2 ⟨c,B,k⟩)
    . exact kI_ (I _ (List.mem_cons_self ..)) hc.1.2 z (List.mem_flatMap.2 ⟨c,B,k⟩)
section
variable (hM:Mem E x w G)
include hM
omit hM in
theorem tu_ {a V}(u:RT E w x G a V){k:Option ω}(h:ij_ x a k=some r):k=some r/\∃ b off,V = .pointer (some ⟨b,off,none⟩):=by
 cases a<;>simp only [ij_] at h<;>(try (cases h;done))
 case pb q off=>
  have p:=u.rf (by intro cs e;cases e) (by intro cs e;cases e) (by intro f cs e;cases e);cases hq:x.h q with
  |none=>rw [hq] at h;cases h
  |some blk=>
   rw [hq] at h;cases blk with
   |arr=>cases h
   |ext=>cases h
   |box cs=>exact ⟨h,_,_,p.2 cs hq⟩
 case pe q i off=>
  have p:=u.rf (by intro cs e;cases e) (by intro cs e;cases e) (by intro f cs e;cases e);cases hq:x.h q with
  |none=>rw [hq] at h;cases h
  |some blk=>
   rw [hq] at h;cases blk with
   |box=>cases h
   |ext=>cases h
   |arr m t st xs=>
    obtain ⟨_,g,n,c,_,e⟩:=p.2 _ _ _ _ (.arr hq);exact ⟨h,_,_,e⟩
 case pc cs off=>
  have p:=u.rf (by intro cs e;cases e) (by intro cs e;cases e) (by intro f cs e;cases e);cases p with
  |scal _ _ _ _ _ hs _=>exact hs.elim
  |pc=>exact ⟨h,_,_,rfl⟩
theorem rM_ {a v}(p:o.op = .nilCheck a) (m:RT E w x G v (α a)) (k:Used x v.refsT) (h:ij_ x v (κ x v)=some r):bO_ E o α κ r x w G:=by obtain ⟨u,b,off,e⟩:=tu_ m h;exact bO_.value (V:=α a) (w':=w) (by simp [execOp,p,e]) (Goes.same hM u m k)
theorem qQ_ {T td a f v off n}(ht:TDok E T td)(ho:o.op = .fieldAddr T a f) (I:RT E w x G v (α a)) (u:Used x v.refsT) (Y:td.fields[f]?=some (off,n))
  (h:ij_ x v (match v with | .pb r o=>κ x (.pb r (o+off)) | .pe r i o=>κ x (.pe r i (o+off)) | .pc cs o=>κ x (.pc cs (o+off))|_=>none)=some r):bO_ E o α κ r x w G:=by
 obtain ⟨B,b,off',e⟩:=tu_ I h;clear h;obtain ⟨fs,hT,hlen,U⟩:=ht.fields (by intro h0;rw [h0] at Y;simp at Y);obtain ⟨fd,Z,h2,J,h4⟩:=U f off n Y;have S:∀ i:TypeInfo,E.P.info? fd.type=some i->i.size≠0:=fun i hi=>by rw [hi] at J;simp at J;omega
 have hr:(Instr.fieldAt T (α a) f).run E.P w = .ok (.pointer (some ⟨b,off'+off,none⟩)) w:=by
  cases hi:E.P.info? fd.type with
  |none=>rw [hi] at J;cases J
  |some i=>simp [Instr.fieldAt,run_underlying hT,Z,e,Instr.sureAddr,fieldPlace,sizeOf,typeInfo,hi,S i hi,h2,Addr.add_mid]
 have p:∀ {V},V = .pointer (some ⟨b,off'+off,none⟩)->Goes E κ r x w G V w->bO_ E o α κ r x w G:=fun e hg=>by subst e;exact bO_.value (by simp [execOp,ho,hr]) hg
 cases v<;>simp only at B<;>(try (cases B;done))
 case pb q o'=>
  have k:=I.rf (by intro cs e;cases e) (by intro cs e;cases e) (by intro f cs e;cases e);refine p rfl (Goes.same hM B (.flat _ _ (.inl ⟨rfl,fun cs hq => ?_⟩)) u);have:=k.2 cs hq;rw [e] at this;cases this;rfl
 case pe q i o'=>
  have k:=I.rf (by intro cs e;cases e) (by intro cs e;cases e) (by intro f cs e;cases e);refine p rfl (Goes.same hM B (.flat _ _ (.inl ⟨rfl,fun m t st xs hq => ?_⟩)) u);obtain ⟨hi,g,n',c,O,e'⟩:=k.2 _ _ _ _ hq;rw [e] at e';cases e';exact ⟨hi,b,n',c,O,by rw [Nat.add_assoc]⟩
 case pc cs o'=>
  have k:=I.rf (by intro cs e;cases e) (by intro cs e;cases e) (by intro f cs e;cases e);rw [e] at k;cases k with
  |scal _ _ _ _ _ hs _=>exact hs.elim
  |pc _ b' ob _ vals z _ _ _ Z hz hr' hlt hF _=>
   refine p rfl (Goes.same hM B ?_ u);rw [Nat.add_assoc];exact .flat _ _ (.inl (RL.pc cs b ob (o'+off) vals z _ _ _ Z hz hr' hlt hF (.nil _ fun _=>rfl)))
theorem go_build {T td parts}(Z:TDok E T td)(ho:o.op = .build T parts){l:List (Nat×AV)} (hl:pV_ E w x G l (parts.toList.map fun p=>(p.1,α p.2))) (hlu:rb_ x l) {cs} (hf:fill td.fields td.zero l=some cs) (S:td.agg=true) (B:κ x (.ag cs)=some r):bO_ E o α κ r x w G:=by
 obtain ⟨h1,h2,i,z,zs,hi,hz,Y,u⟩:=Z.zero;obtain ⟨fs,hT,O,hfs⟩:=Z.fields (Z.struct S);have hsz:∀ (k:Nat)(f:Field),fs[k]?=some f->∃ n,td.fields[k]?=some (f.offset,n)/\(E.P.info? f.type).map (·.size)=some n:=fun k f B=>by
  have J:k<td.fields.length:=by have:=(Array.getElem?_eq_some_iff.1 B).1;omega
  obtain ⟨fd,e1,e2,e3,_⟩:=hfs k (td.fields[k].1) (td.fields[k].2) (by rw [List.getElem?_eq_getElem J]);rw [B] at e1;cases e1;exact ⟨td.fields[k].2,by rw [List.getElem?_eq_getElem J,e2],e3⟩
 have m:fs.toList.mapM (fun f=>(E.P.info? f.type).map fun i=>(f.offset,i.size))=some td.fields:=by
  have U:∀ (l:List Field) (ps:List (Nat×Nat)),l.length=ps.length->(∀ (k:Nat)(f:Field),l[k]?=some f->∃ n,ps[k]?=some (f.offset,n)/\(E.P.info? f.type).map (·.size)=some n)->l.mapM (fun f=>(E.P.info? f.type).map fun i=>(f.offset,i.size))=some ps:=by
   intro l;induction l with
   |nil=>intro ps h _;cases ps with
    |nil=>rfl
    |cons=>simp at h
   |cons f l ih=>
    intro ps h B;cases ps with
    |nil=>simp at h
    |cons p ps=>
     obtain ⟨n,e1,e2⟩:=B 0 f rfl;have:=ih ps (by simpa using h) fun k f' h'=>by have:=B (k+1) f' (by simpa using h');simpa using this
     simp only [List.getElem?_cons_zero,Option.some.injEq] at e1;subst e1;cases I:E.P.info? f.type with
     |none=>rw [I] at e2;cases e2
     |some i=>
      rw [I] at e2;simp only [Option.map_some,Option.some.injEq] at e2;rw [List.mapM_cons,this,I];simp [e2]
  exact U _ _ (by simpa using O) fun k f h=>hsz k f (by simpa using h)
 obtain ⟨us',e1,e2⟩:=fill_ok (w:=w) (x:=x) (G:=G) (E:=E) (fields:=td.fields) (place:=fun k=>td.fields.toArray[k]?) (fun i off n h=>by simpa using h) l _ td.zero zs cs hl (u.mono fun a v _ h=>RF.of_scl h) hf;have hb:E.P.built T (parts.map fun (i,x)=>(i,α x)).toList=some (List.toArray us'):=by unfold Program.built;simp only [hT,hi,hz,m];rw [Y,Array.toList_map];exact e1
 refine bO_.value (V:=.agg (List.toArray us')) (w':=w) (by simp [execOp,ho,run_build w T _ _ hb]) (Goes.same hM B (.flat _ _ (.inr ⟨cs,us',rfl,rfl,e2⟩)) ?_);exact qU_ td.fields l td.zero cs hlu (by rw [u.scl_refs];exact cx_) hf
theorem rN_ {f caps} (I:o.op = .makeFunc (.func f) #[] caps) {l:List AV} (hl:AllF (RT E w x G) l (caps.toList.map α)) (B:∀ a ∈ l,Used x a.refsT) (m:l.all AV.one=true) (J:κ x (.clo f l)=some r):bO_ E o α κ r x w G:=by
 have p:∀ {l us},AllF (RT E w x G) l us->l.all AV.one=true->AllF (RF E w x G) l us:=by
  intro l us h m;have:∀ a v,a ∈ l->RT E w x G a v->RF E w x G a v:=fun a v ha h=>by have k:=(List.all_eq_true.1 m) a ha;exact h.rf (fun cs e=>by subst e;simp [AV.one] at k) (fun cs e=>by subst e;simp [AV.one] at k) (fun f cs e=>by subst e;simp [AV.one] at k)
  exact h.mono this
 refine bO_.value (V:=.func (.func f) #[] (List.toArray (caps.toList.map α))) (w':=w) ?_ (Goes.same hM J (.clo f l _ (p hl m)) ?_)
 . simp [execOp,I,Instr.makeFunc]
   apply Array.toList_inj.1;simp
 . intro z u
   obtain ⟨a,ha,u⟩:=List.mem_flatMap.1 u;refine B a ha z ?_;have k:=(List.all_eq_true.1 m) a ha;cases a<;>first|exact u|(simp [AV.one] at k)
theorem go_max {k k' n m}{a b:Operand}{ts}(p:o.op = .call { callee:=.builtin .max,args:=#[a,b],argTypes:=ts })(ha:α a = .int k n)(hb:α b = .int k' m) (u:κ x (.i k (cond (decide (m > n)) m n))=some r):bO_ E o α κ r x w G:=by
 refine bO_.value (V:=.int k (if n<m then m else n)) (w':=w) ?_ (Goes.same hM u (RT.scl ?_) cx_)
 . have hr:(Builtin.max_ ts o.type #[α a,α b]).run E.P w = .ok (.int k (if n<m then m else n)) w:=by
    rw [ha,hb];by_cases h:n<m
    . simp [Builtin.max_,Builtin.max2,h]
    . simp [Builtin.max_,Builtin.max2,h]
   unfold execOp;simp only [p,resolve,invoke,builtin,Sem.run_bind,Sem.run_pure,Result.andThen_ok,List.map_toArray,List.map_cons,List.map_nil,hr]
 . show _=Value.int k _
   by_cases h:n<m<;>simp [h]
theorem go_min {k k' n m}{a b:Operand}{ts}(p:o.op = .call { callee:=.builtin .min,args:=#[a,b],argTypes:=ts })(ha:α a = .int k n)(hb:α b = .int k' m) (u:κ x (.i k (cond (decide (m<n)) m n))=some r):bO_ E o α κ r x w G:=by
 refine bO_.value (V:=.int k (if m<n then m else n)) (w':=w) ?_ (Goes.same hM u (RT.scl ?_) cx_)
 . have hr:(Builtin.min_ ts o.type #[α a,α b]).run E.P w = .ok (.int k (if m<n then m else n)) w:=by
    rw [ha,hb];by_cases h:m<n
    . simp [Builtin.min_,Builtin.min2,h]
    . simp [Builtin.min_,Builtin.min2,h]
   unfold execOp;simp only [p,resolve,invoke,builtin,Sem.run_bind,Sem.run_pure,Result.andThen_ok,List.map_toArray,List.map_cons,List.map_nil,hr]
 . show _=Value.int k _
   by_cases h:m<n<;>simp [h]
end
end
section
theorem ov_:∀ (ns:List Int)(r:ByteArray),ns.foldl (fun r n=>r.push (UInt8.ofNat n.toNat)) r=⟨r.data++(ns.map fun n=>UInt8.ofNat n.toNat).toArray⟩
 |[],r=>by simp
 |n::ns,r=>by simp only [List.foldl_cons];rw [ov_ ns];simp [ByteArray.push]
theorem run_bytes {P:Program}{w:World}{src dst e:TypeId} (hs:P.underlying src=some (.slice e)) (he:P.underlying e=some (.int .u8)) (hd:P.underlying dst=some .string) {V:Value} {ns:List Int}
  (h:(∃ a c,V = .slice (some a) ns.length c/\∀ j u,(ns.map (Value.int .u8))[j]?=some u->w.cell? (a.add j)=some u)\/(∃ c,V = .slice none 0 c/\ns=[])) :
  (convert src dst V).run P w = .ok (.string ⟨(ns.map fun n=>UInt8.ofNat n.toNat).toArray⟩) w:=by
 rcases h with ⟨a,c,rfl,h⟩|⟨c,rfl,rfl⟩
 . rw [run_convert_bytes_string w src dst e (some a) ns.length c hs he hd]
   have hl:=run_loadCells_list (P:=P) w a (ns.map (Value.int .u8)) h;simp only [List.length_map] at hl;rw [run_bytesToString w a ns.length c _ hl,ov_];have k:ByteArray.empty.data = #[]:=rfl;rw [k];simp
 . rw [run_convert_bytes_string w src dst e none 0 c hs he hd]
   simp [Conv.bytesToString]
   rfl
variable [aj_]
open aj_
variable {ω:Type}
variable {E:Env} {x:X} {w w':World} {G:ao_} {κ:X->AV->Option ω} {r:ω} {o:Oper} {α:Operand->Value}
def ints (xs:List (El .u8)):List Int:=xs
theorem rl_ [ai_]{F:Nat->Prop}{m:M}:∀ {xs:List (El .u8)}{vals φ},RL E w F (aT_ m .u8 xs) vals φ->vals=(ints xs).map (Value.int .u8)
 |[],vals,φ,h=>by obtain ⟨rfl,_⟩:=RL.nil_inv h;rfl
 |x::xs,vals,φ,h=>by
  have e:aT_ m .u8 (x::xs) = .i .u8 (show Int from x)::aT_ m .u8 xs:=by show enc m .u8 x++aT_ m .u8 xs=_;rw [ai_.u8];rfl
  rw [e] at h;obtain ⟨v,vs,φ₁,φ₂,rfl,u,p,_⟩:=RL.uncons h;have k:=rl_ p;cases u with
  |scal _ _ _ _ _ hs _=>
   have hs:v = .int .u8 (show Int from x):=hs;subst hs;rw [k];rfl
section
variable (hM:Mem E x w G)
include hM
theorem go_conv [ai_]{T T' a v}{ty ty'}(ht:TTok E T ty)(ht':TTok E T' ty') (h8:E.P.underlying (E.eid .u8)=some (.int .u8)) (ho:o.op = .convert T T' a) (U:RT E w x G v (α a)) (h:ih_ ty ty' x v (κ x)=some r):bO_ E o α κ r x w G:=by
 unfold ih_ at h;cases ty with
 |none=>cases h
 |some e=>
  cases ty' with
  |none=>cases h
  |some d=>
   simp only at h;have he:=ht.ok e rfl;have hd:=ht'.ok d rfl;have J:∀ {ns:List Int},d.isStr=true->e.elem=some .u8->(∃ p c,α a = .slice (some p) ns.length c/\∀ j u,(ns.map (Value.int .u8))[j]?=some u->w.cell? (p.add j)=some u)\/(∃ c,α a = .slice none 0 c/\ns=[]) ->
     κ x (.s (ns.map fun n=>UInt8.ofNat n.toNat))=some r->bO_ E o α κ r x w G:=by
    intro ns hs hel hV hk;refine bO_.value (V:=.string ⟨(ns.map fun n:Int=>UInt8.ofNat n.toNat).toArray⟩) (w':=w) ?_ (Goes.same hM hk (RT.scl rfl) cx_);simp [execOp,ho,run_bytes (he.elem _ hel) h8 (hd.str hs) hV]
   split at h
   . rename_i B hke
     exact rO_ hM ho (hd.kind _ B) U.i (he.kind _ hke) h
   . rename_i q B hs hel
     cases hq:x.h q with
     |none=>rw [hq] at h;cases h
     |some blk=>
      rw [hq] at h;split at h
      . rename_i m st xs hb
        cases hb;have Z:=U.rf (by intro cs e;cases e) (by intro cs e;cases e) (by intro f cs e;cases e);have hsv:=Z.2 _ _ _ _ (.arr hq);obtain ⟨hm,how,ψ,hrl,_⟩:=hM.root q _ hq;have k:=rl_ hrl;refine J (ns:=ints xs) hs hel ?_ h;rw [hsv];rcases own_val how with ⟨p,c,e1,e2⟩|⟨e1,e0⟩
        . exact .inl ⟨p,c,e1,by rw [<-k];exact e2⟩
        . exact .inr ⟨0,e1,List.eq_nil_of_length_eq_zero e0⟩
      . cases h
   . rename_i xs B hs hel
     have Z:=U.rf (by intro cs e;cases e) (by intro cs e;cases e) (by intro f cs e;cases e);generalize hV:α a=V at Z;cases Z with
     |scal _ _ _ _ _ hs _=>exact hs.elim
     |own _ _ _ _ _ _ _ _ _ _ hm=>exact absurd rfl hm
     |view _ _ p n cap vals z _ _ _ hn h1 hz hb _=>
      have k:=rl_ h1;refine J (ns:=ints xs) hs hel ?_ h;rw [hV];have O:n=(ints xs).length:=hn.1;by_cases h0:0<n
      . obtain ⟨b,o',rfl,hr,_⟩:=hb h0
        refine .inl ⟨_,cap,by rw [O],fun j u Y => ?_⟩;rw [Addr.add_mid];exact hr j u (by rw [k];exact Y)
      . have S:n=0:=by omega
        have I:ints xs=[]:=List.eq_nil_of_length_eq_zero (by rw [<-O];exact S);cases p with
        |none=>exact .inr ⟨cap,by rw [S],I⟩
        |some p=>
         refine .inl ⟨p,cap,by rw [O],fun j u Y => ?_⟩;rw [I] at Y;simp at Y
   . rename_i B hs hel
     exact J (ns:=[]) hs hel (.inr ⟨0,U.nils,rfl⟩) h
   . cases h
end
end
section
variable [aj_]
open aj_
variable {E:Env} {x:X} {w:World} {G:ao_} {ω:Type} {κ:X->AV->Option ω} {r:ω} {o:Oper} {α:Operand->Value}
omit [aj_] in
theorem nj_ {P:Program}{d:Nat}{xs ys:Array Value}{f:Field}{fs:List Field}{a b:Value}{r s:Bool} (hn:(f.name == "_")=false) (ha:(part f.type xs f.offset).run P w = .ok a w) (hb:(part f.type ys f.offset).run P w = .ok b w) (he:(Op.equalIn d f.type a b).run P w = .ok r w) (hr:(Op.eqFields d xs ys fs).run P w = .ok s w):(Op.eqFields d xs ys (f::fs)).run P w = .ok (cond r s false) w:=by
 have k:f.name ≠ "_" := by simpa using hn
 rw [Op.eqFields];simp only [if_pos k,Sem.run_bind,ha,hb,he,Result.andThen_ok];cases r
 . simp
 . simpa using hr
theorem oy_ {fs:Array Field}{cmp:List CK} (Z:∀ (k:Nat)(f:Field)(q:CK),fs[k]?=some f->cmp[k]?=some q->(f.name == "_")=false/\f.offset=k/\E.P.plainKey f.type=true /\
   match q with
   |.i=>∃ kk,E.P.underlying f.type=some (.int kk)
   |.b=>E.P.underlying f.type=some .bool
   |.s=>E.P.underlying f.type=some .string) (z:fs.size=cmp.length) {us vs:List Value}:∀ (ks:List CK)(l m:List AV)(us' vs':List Value)(k:Nat)(q:Bool),cmp.drop k=ks->us.drop k=us'->vs.drop k=vs' ->
   AllF (RF E w x G) l us'->AllF (RF E w x G) m vs'->gv_ ks l m=some q->(Op.eqFields 9999 (List.toArray us) (List.toArray vs) (fs.toList.drop k)).run E.P w = .ok q w
 |[],[],[],us',vs',k,q,O,Y,V,hl,J,h=>by
  simp only [gv_,Option.some.injEq] at h;subst h;have:cmp.length<=k:=by have:=congrArg List.length O;simp at this;omega
  rw [List.drop_eq_nil_of_le (by simp;omega)];simp [Op.eqFields]
 |c::ks,a::l,b::m,us',vs',k,q,O,Y,V,hl,J,h=>by
  simp only [gv_] at h;cases hq:gv_ ks l m with
  |none=>rw [hq] at h;cases h
  |some q'=>
   rw [hq] at h;have I:cmp[k]?=some c:=by
    have:(cmp.drop k)[0]?=some c:=by rw [O];rfl
    simpa using this
   have hk:k<cmp.length:=(List.getElem?_eq_some_iff.1 I).1;have U:fs[k]?=some fs[k]:=by simp [z,hk]
   obtain ⟨n1,n2,n3,n4⟩:=Z k _ c U I;cases us' with
   |nil=>exact hl.elim
   |cons u us'=>
    cases vs' with
    |nil=>exact J.elim
    |cons v vs'=>
     have T:(List.toArray us)[k]?=some u:=by
      have:(us.drop k)[0]?=some u:=by rw [Y];rfl
      simpa using this
     have S:(List.toArray vs)[k]?=some v:=by
      have:(vs.drop k)[0]?=some v:=by rw [V];rfl
      simpa using this
     have d1:cmp.drop (k+1)=ks:=by have:=congrArg List.tail O;simpa [List.tail_drop] using this
     have d2:us.drop (k+1)=us':=by have:=congrArg List.tail Y;simpa [List.tail_drop] using this
     have d3:vs.drop (k+1)=vs':=by have:=congrArg List.tail V;simpa [List.tail_drop] using this
     have ih:=oy_ Z z ks l m us' vs' (k+1) q' d1 d2 d3 hl.2 J.2 hq;have p:fs.toList.drop k=fs[k]::fs.toList.drop (k+1):=by rw [List.drop_eq_getElem_cons (by simp;omega)];simp
     rw [p];have p1:(part fs[k].type (List.toArray us) fs[k].offset).run E.P w = .ok u w:=run_part_plain w n3 (by rw [n2];exact T);have p2:(part fs[k].type (List.toArray vs) fs[k].offset).run E.P w = .ok v w:=run_part_plain w n3 (by rw [n2];exact S);have ha:RT E w x G a u:=.flat _ _ (.inl hl.1);have hb:RT E w x G b v:=.flat _ _ (.inl J.1);cases c with
     |i=>
      obtain ⟨kk,n4⟩:=n4;cases a<;>simp only at h<;>(try (cases h;done));cases b<;>simp only at h<;>(try (cases h;done));rename_i k1 n1' k2 n2';by_cases B:k1=k2
      . subst B
        simp only [decide_true,cond_true,Option.some.injEq] at h;subst h;rw [ha.i] at p1;rw [hb.i] at p2;exact nj_ n1 p1 p2 (run_equalIn_int w 9998 _ k1 kk _ _ n4) ih
      . simp [B] at h
     |b=>
      cases a<;>simp only at h<;>(try (cases h;done));cases b<;>simp only at h<;>(try (cases h;done));simp only [Option.some.injEq] at h;subst h;rw [ha.b] at p1;rw [hb.b] at p2;exact nj_ n1 p1 p2 (run_equalIn_bool' w 9998 _ _ _ n4) ih
     |s=>
      cases a<;>simp only at h<;>(try (cases h;done));cases b<;>simp only at h<;>(try (cases h;done));rename_i s1 s2;simp only [Option.some.injEq] at h;subst h;rw [ha.s] at p1;rw [hb.s] at p2;have:=run_equalIn_string (P:=E.P) w 9998 fs[k].type (nG_ s1) (nG_ s2) n4;rw [r4_,r4_] at this;exact nj_ n1 p1 p2 this ih
 |[],_::_,_,_,_,_,_,_,_,_,_,_,h=>by simp [gv_] at h
 |[],[],_::_,_,_,_,_,_,_,_,_,_,h=>by simp [gv_] at h
 |_::_,[],_,_,_,_,_,_,_,_,_,_,h=>by simp [gv_] at h
 |_::_,_::_,[],_,_,_,_,_,_,_,_,_,h=>by simp [gv_] at h
omit [aj_] in
theorem mK_ {P:Program}{T:TypeId}{ms} (k:P.underlying T=some (.interface ms)) {v:Value} {q:Bool} (p:q=true->v = .nilIface) (m:q=false->∃ t u,v = .iface t u) (w:World) (d:Nat):(Op.equalIn (d+1) T v .nilIface).run P w = .ok q w:=by
 cases q with
 |true=>rw [p rfl];simp [Op.equalIn,run_underlying k]
 |false=>obtain ⟨t,u,rfl⟩:=m rfl;simp [Op.equalIn,run_underlying k]
theorem go_bin_er (hM:Mem E x w G){T td op a b T'}(I:TDok E T td)(u:o.op = .binOp op T a b T'){q:Bool} (ha:RT E w x G (.er q) (α a)) (hb:RT E w x G .nili (α b)) (h:erEq (some td) (opC b) op (.er q) .nili (κ x)=some r):bO_ E o α κ r x w G:=by
 unfold erEq at h;simp only at h;cases hi:td.isIf&&opC b with
 |false=>simp [hi] at h
 |true=>
  simp only [hi,cond_true] at h;simp only [Bool.and_eq_true] at hi;obtain ⟨ms,B⟩:=I.iface hi.1;have hc:∃ v,b = .const v:=by cases b<;>first|exact ⟨_,rfl⟩|(have:=hi.2;cases this)
  obtain ⟨cv,p⟩:=hc;have e2:=hb.nili;have heq:(Op.equalIn 10000 T (α a) .nilIface).run E.P w = .ok q w:=mK_ B ha.er.1 ha.er.2 w 9999;have he:(Op.equal T (α a) .nilIface).run E.P w = .ok q w:=heq;have z:∀ t y,(eqGuard op t y b (α a) .nilIface).run E.P w = .ok () w:=fun t y=>by
   subst p;cases q with
   |true=>rw [ha.er.1 rfl];cases op<;>simp [eqGuard]
   |false=>obtain ⟨t',u',e⟩:=ha.er.2 rfl;rw [e];cases op<;>simp [eqGuard]
  have m:∀ op',(op' = .eql\/op' = .neq)->(binOp op' T (α a) .nilIface).run E.P w = .ok (.bool (match op' with | .neq => !q|_=>q)) w:=fun op' k=>by
   cases q with
   |true=>
    have e:=ha.er.1 rfl;rw [e] at he ⊢;rcases k with rfl|rfl<;>simp only [binOp,Sem.run_bind,he,Result.andThen_ok,Sem.run_pure]
   |false=>
    obtain ⟨t',u',e⟩:=ha.er.2 rfl;rw [e] at he ⊢;rcases k with rfl|rfl<;>simp only [binOp,Sem.run_bind,he,Result.andThen_ok,Sem.run_pure]
  cases op<;>simp only at h<;>(try (cases h;done))
  . exact bO_.value (V:=.bool q) (by simp only [execOp,u,e2,Sem.run_bind,z,Result.andThen_ok,m _ (.inl rfl)];rfl) (Goes.same hM h (RT.scl rfl) cx_)
  . exact bO_.value (V:=.bool (!q)) (by simp only [execOp,u,e2,Sem.run_bind,z,Result.andThen_ok,m _ (.inr rfl)];rfl) (Goes.same hM h (RT.scl rfl) cx_)
theorem ub_ (hM:Mem E x w G){T td op a b T'}(I:TDok E T td)(u:o.op = .binOp op T a b T'){xs ys:List AV} (ha:RT E w x G (.ag xs) (α a)) (hb:RT E w x G (.ag ys) (α b)) (h:r7_ (some td) op (.ag xs) (.ag ys) (κ x)=some r):bO_ E o α κ r x w G:=by
 obtain ⟨us,e1,O⟩:=ha.ag;obtain ⟨vs,e2,J⟩:=hb.ag;unfold r7_ at h;simp only at h;cases m:td.cmp with
 |nil=>rw [m] at h;cases h
 |cons k ks=>
  rw [m] at h;simp only at h;obtain ⟨fs,f1,f2,f3,f4,f5⟩:=I.cmp (by rw [m];simp);cases hq:gv_ (k::ks) xs ys with
  |none=>rw [hq] at h;cases h
  |some q=>
   rw [hq] at h;have B:E.P.fieldsOf T=fs:=by simp [Program.fieldsOf,f1]
   have p:=oy_ (us:=us) (vs:=vs) f5 f4 (k::ks) xs ys us vs 0 q (by rw [m];rfl) rfl rfl O J hq;have heq:(Op.equalIn 10000 T (.agg (List.toArray us)) (.agg (List.toArray vs))).run E.P w = .ok q w:=by rw [run_equalIn_struct w 9999 T _ _ (by rw [B];exact f1) f2,B];simpa using p
   have z:=run_eqGuard_agg (P:=E.P) w op T a b (List.toArray us) (List.toArray vs) f3;cases op<;>simp only at h<;>(try (cases h;done))
   . exact bO_.value (V:=.bool q) (by simp only [execOp,u,e1,e2,Sem.run_bind,z,Result.andThen_ok,run_eql_struct,heq,Sem.run_pure]) (Goes.same hM h (RT.scl rfl) cx_)
   . exact bO_.value (V:=.bool (!q)) (by simp only [execOp,u,e1,e2,Sem.run_bind,z,Result.andThen_ok,run_neq_struct,heq,Sem.run_pure]) (Goes.same hM h (RT.scl rfl) cx_)
end
end Go.Pi
