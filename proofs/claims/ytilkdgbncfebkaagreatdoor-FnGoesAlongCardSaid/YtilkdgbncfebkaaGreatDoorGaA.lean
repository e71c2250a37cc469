/- FnGoesAlong: a view of a drawn store that goes along with a batch is the view of the store behind it, and its answer what asking anew tells. No condition. Text 1 of 7. -/
import Derived.Calls
import Derived.KernelRfl
import Derived.Laws.AppendOwn
import Derived.Deep.MidRow
import Derived.Laws.Strings
import Derived.Lib.Strings
import Derived.Laws.MakeOwn
import Derived.Laws.BytesString
import Derived.Great.BuildSlice
import Derived.Laws.OwnMore
import Derived.Laws.Slices
import Derived.Laws.IdiomStrings
import Derived.Laws.Tables
import Derived.ChangeKeysEq
import Derived.Laws.StructEq
set_option linter.unusedVariables false
section
/- the types of the program, as data -/
namespace Go.Pi
abbrev Bs:=List UInt8
inductive M where|v|s|d
 deriving DecidableEq
def M.sub:M→M | .d=>.d|_=>.v
inductive TC where
 |u8
 |int
 |str
 |iRow
 |s_iRow
 |iCond
 |iMut
 |iKid
 |iChange
 |iJson
 deriving DecidableEq
structure au_ where
 cols:List Int
def au_.dflt:au_:=au_.mk []
structure TRow where
 id_:Int
 cells:List Int
def TRow.dflt:TRow:=TRow.mk 0 []
structure an_ where
 schema:au_
 version:Int
 tables:List (List TRow)
def an_.dflt:an_:=an_.mk au_.dflt 0 []
structure aY_ where
 col:Int
 op:Int
 v:Int
def aY_.dflt:aY_:=aY_.mk 0 0 0
structure ae_ where
 table:Int
 where_:List aY_
 order:Int
 down:Bool
 first:Int
 show_:List Int
 kids:Bool
 kidTable:Int
 kidCol:Int
def ae_.dflt:ae_:=ae_.mk 0 [] 0 false 0 [] false 0 0
structure aw_ where
 b:List Int
 i:Int
 h:Int
def aw_.dflt:aw_:=aw_.mk [] 0 0
structure TMut where
 kind:Int
 table:Int
 row:TRow
def TMut.dflt:TMut:=TMut.mk 0 0 TRow.dflt
structure aI_ where
 table:Int
 had:Bool
 has:Bool
 old:TRow
 new:TRow
def aI_.dflt:aI_:=aI_.mk 0 false false TRow.dflt TRow.dflt
structure TKid where
 id_:Int
 n_:Int
def TKid.dflt:TKid:=TKid.mk 0 0
structure bd_ where
 q:ae_
 rows:List TRow
 kids:List TKid
def bd_.dflt:bd_:=bd_.mk ae_.dflt [] []
structure ax_ where
 kind:Int
 n_:Int
 s:Bs
 list:List ax_
 names:List Bs
def ax_.dflt:ax_:=ax_.mk 0 0 [] [] []
def ax_.re (x:ax_):ax_:=ax_.mk x.kind x.n_ x.s x.list x.names
def El:TC→Type
 |.u8=>Int
 |.int=>Int
 |.str=>Bs
 |.iRow=>TRow
 |.s_iRow=>List TRow
 |.iCond=>aY_
 |.iMut=>TMut
 |.iKid=>TKid
 |.iChange=>aI_
 |.iJson=>ax_
def El.dflt:(t:TC)→El t
 |.u8=>(0:Int)
 |.int=>(0:Int)
 |.str=>([]:Bs)
 |.iRow=>(TRow.dflt:TRow)
 |.s_iRow=>([]:List TRow)
 |.iCond=>(aY_.dflt:aY_)
 |.iMut=>(TMut.dflt:TMut)
 |.iKid=>(TKid.dflt:TKid)
 |.iChange=>(aI_.dflt:aI_)
 |.iJson=>(ax_.dflt:ax_)
def TC.flat:TC→Bool
 |.u8=>true
 |.int=>true
 |.str=>true
 |.iCond=>true
 |.iKid=>true
 |_=>false
def TC.width:TC→Nat
 |.u8=>1
 |.int=>1
 |.str=>1
 |.iRow=>2
 |.s_iRow=>1
 |.iCond=>3
 |.iMut=>4
 |.iKid=>2
 |.iChange=>7
 |.iJson=>5
def TC.bytes:TC→Nat
 |.u8=>1
 |.int=>8
 |.str=>16
 |.iRow=>32
 |.s_iRow=>24
 |.iCond=>24
 |.iMut=>48
 |.iKid=>16
 |.iChange=>80
 |.iJson=>80
abbrev W (n:Int):Int:=IntKind.i64.wrap n
abbrev toBs (l:List Int):Bs:=List.map (fun n:Int=>UInt8.ofNat n.toNat) l
end Go.Pi
end
section
namespace Go.Pi
inductive AV:Type where
 |i (k:IntKind) (n:Int)
 |b (b:Bool)
 |s (l:Bs)
 |ag (cs:List AV)
 |tu (vs:List AV)
 |nils
 |sl (m:M) (t:TC) (xs:List (El t))
 |rt (r:Nat)
 |sr (r lo hi:Nat)
 |ns (r st i off:Nat) (t:TC) (xs:List (El t))
 |pb (r off:Nat)
 |pe (r i off:Nat)
 |pc (cs:List AV) (off:Nat)
 |bx (cs:List AV)
 |clo (f:FuncId) (caps:List AV)
 |nilp|nili
 |er (q:Bool)
 |u
instance:Inhabited AV:=⟨.u⟩
structure Hol:Type where
 m:M
 t:TC
 st:Nat
 i:Nat
 xs:List (El t)
inductive Blk:Type where
 |box (cs:List AV)
 |arr (m:M) (t:TC) (st:Nat) (xs:List (El t))
 |ext (q:Option Hol)
structure X where
 h:Nat→Option Blk
 u:Nat→Bool
structure St where
 tmps:Nat→AV
 x:X
def upd {α:Type} (f:Nat→α) (k:Nat) (v:α):Nat→α:=fun x=>cond (Nat.beq x k) v (f x)
def AV.cells:AV→List AV
 |.ag cs=>cs
 |v=>[v]
def AV.isTu:AV→Bool
 |.tu _=>true
 |_=>false
def AV.one:AV→Bool
 |.ag _ | .tu _ | .bx _ | .clo _ _ | .u=>false
 |_=>true
def AV.cel:AV→Bool
 |.ag _ | .tu _ | .bx _ | .clo _ _=>false
 |_=>true
def decSl (t:TC):AV→Option (List (El t))
 |.sl _ t' xs=>if h:t'=t then some (h ▸ xs) else none
 |.nils=>some []
 |_=>none
inductive CK where
 |i|b|s
structure TD where
 size:Nat
 agg:Bool
 zero:List AV
 fields:List (Nat × Nat)
 elem:Option TC
 kind:Option IntKind
 isStr:Bool
 isBool:Bool
 cmp:List CK
 isIf:Bool
def TD.val (d:TD) (cs:List AV):AV:=cond d.agg (.ag cs) (cs.headD .u)
def setRange:List AV→Nat→List AV→List AV
 |l,0,vs=>vs++l.drop vs.length
 |x::l,k+1,vs=>x::setRange l k vs
 |[],_+1,_=>[]
inductive PS where
 |v
 |o
 |mu
 |ag (l:List PS)
 |ptr (l:List PS)
class ao_ where
 enc:M→(t:TC)→El t→List AV
 dec:(t:TC)→List AV→Option (El t)
structure Cx where
 nt:Nat
 tt:Nat→Option TD
 sig:Nat→Option (List PS)
 K:(ω:Type)→Nat→List AV→(AV→List AV→Option ω)→Option ω
 fz:Nat→Bool
def ofValue:Value→AV
 |.int k n=>.i k n
 |.bool b=>.b b
 |.string s=>.s s.data.toList
 |.slice none 0 0=>.nils
 |.pointer none=>.nilp
 |.nilIface=>.nili
 |_=>.u
def St.eval (s:St):Operand→AV
 |.tmp t=>s.tmps t
 |.const v=>ofValue v
 |.func f=>.clo f []
 |.global _=>.u
def X.blk (x:X) (r:Nat) (b:Option Blk):X:=⟨upd x.h r b,x.u⟩
variable {ω:Type}
def X.new (x:X) (r:Nat) (b:Blk) (κ:X→Option ω):Option ω:=cond (x.u r) none (κ ⟨upd x.h r (some b),upd x.u r true⟩)
def M.meet (m:M) (ok:Bool):M:=match m with
 |.d=>cond ok .d .s
 |m=>m
section
variable [ao_]
open ao_
def fd_ (m:M) (r st i:Nat):Nat→List AV→List AV
 |_,[]=>[]
 |j,.sl m' t xs::l=>(match m with | .d=>.ns r st i j t xs|_=>.sl .v t xs)::fd_ m r st i (j+1) l
 |j,c::l=>c::fd_ m r st i (j+1) l
def loadAt (x:X) (n:Nat):AV→Option (List AV)
 |.pb r off=>match x.h r with
  |some (.box cs)=>some ((cs.drop off).take n)
  |_=>none
 |.pe r i off=>match x.h r with
  |some (.arr m t st xs)=>some ((fd_ m r st i 0 (enc .v t (xs.getD i (El.dflt t)))).drop off |>.take n)
  |_=>none
 |.pc cs off=>some ((cs.drop off).take n)
 |_=>none
def bc_ (x:X):List AV→Option (X × List AV × Bool)
 |[]=>some (x,[],true)
 |c::l=>match c with
  |.rt r=>match x.h r with
   |some (.arr m t _ xs)=>match bc_ (x.blk r none) l with
    |some (x',l',ok)=>some (x',.sl m t xs::l',ok&&(match m with | .d=>true | .s=>t.flat | .v=>false))
    |none=>none
   |_=>none
  |.sl .v t xs=>match bc_ x l with
   |some (x',l',_)=>some (x',.sl .v t xs::l',false)
   |none=>none
  |.i k n=>match bc_ x l with
   |some (x',l',ok)=>some (x',.i k n::l',ok)
   |none=>none
  |.b k=>match bc_ x l with
   |some (x',l',ok)=>some (x',.b k::l',ok)
   |none=>none
  |.s k=>match bc_ x l with
   |some (x',l',ok)=>some (x',.s k::l',ok)
   |none=>none
  |.nils=>match bc_ x l with
   |some (x',l',ok)=>some (x',.nils::l',ok)
   |none=>none
  |_=>none
def storeAt (x:X) (v:List AV) (κ:X→Option ω):AV→Option ω
 |.pb r off=>match x.h r with
  |some (.box cs)=>cond (Nat.ble (off+v.length) cs.length) (κ (x.blk r (some (.box (setRange cs off v))))) none
  |_=>none
 |.pe r i off=>match bc_ x v with
  |some (x,v,ok)=>match x.h r with
   |some (.arr m t st xs)=>match cond (Nat.ble (off+v.length) t.width) (dec t (setRange (enc .v t (xs.getD i (El.dflt t))) off v)) none with
    |some y=>κ (x.blk r (some (.arr (m.meet ok) t (st+1) (xs.set i y))))
    |none=>none
   |some (.ext (some ⟨m,t,st,i',xs⟩))=>cond (Nat.beq i i') (cond (Nat.beq off 0&&Nat.beq v.length t.width) (match dec t v with
    |some y=>κ (x.blk r (some (.arr (m.meet ok) t (st+1) (xs.set i y))))
    |none=>none) none) none
   |_=>none
  |none=>none
 |_=>none
def gT_ (x:X) (a v:AV) (k:X→Option ω) (e:Option ω):Option ω :=
 match a,v with
 |.pe r i off,.ns q st i' off' _ _=>cond (Nat.beq r q) (match x.h r with
  |some (.arr _ _ st' _)=>cond (Nat.beq st st') (cond (Nat.beq i i') (cond (Nat.beq off off') (k x) none) none) none
  |_=>none) e
 |_,_=>e
omit [ao_] in
theorem self_or {x:X} {a v:AV} {k:X→Option ω} {e:Option ω} {r:ω} (h:gT_ x a v k e=some r) :
  e=some r∨∃ q i off st t ys m t' xs,a = .pe q i off∧v = .ns q st i off t ys∧x.h q=some (.arr m t' st xs)∧k x=some r:=by
 unfold gT_ at h
 split at h
 · rename_i q i off q' st i' off' t ys
   cases h1:Nat.beq q q' with
   |false=>rw [h1] at h;exact .inl h
   |true=>
    rw [h1] at h
    have h1:=Nat.eq_of_beq_eq_true h1
    subst h1
    simp only [cond_true] at h
    split at h
    · rename_i m t' st' xs hq
      cases h2:Nat.beq st st' with
      |false=>rw [h2] at h;cases h
      |true=>
       rw [h2] at h
       have h2:=Nat.eq_of_beq_eq_true h2
       subst h2
       simp only [cond_true] at h
       cases h3:Nat.beq i i' with
       |false=>rw [h3] at h;cases h
       |true=>
        rw [h3] at h
        have h3:=Nat.eq_of_beq_eq_true h3
        subst h3
        simp only [cond_true] at h
        cases h4:Nat.beq off off' with
        |false=>rw [h4] at h;cases h
        |true=>
         rw [h4] at h
         have h4:=Nat.eq_of_beq_eq_true h4
         subst h4
         exact .inr ⟨q,i,off,st,t,ys,m,t',xs,rfl,rfl,hq,h⟩
    · cases h
 · exact .inl h
def inB (n:Int) (len:Nat) (κ:Option ω):Option ω:=cond (decide (0≤n)) (cond (decide (n<(len:Int))) κ none) none
def gH_ (ty:Option TD) (t:TC) (κ:Option ω):Option ω :=
 match ty with
 |some td=>match td.elem with
  |some te=>cond (decide (t=te)) κ none
  |none=>none
 |none=>none
def strB (ty:Option TD) (κ:Option ω):Option ω :=
 match ty with
 |some td=>cond td.isStr κ none
 |none=>none
def slB (ty:Option TD) (κ:Option ω):Option ω :=
 match ty with
 |some td=>match td.elem with
  |some _=>κ
  |none=>none
 |none=>none
def indexAt (ty:Option TD) (x:X) (a:AV) (n:Int) (κ:X→AV→Option ω):Option ω :=
 match a with
 |.sl .v t xs=>gH_ ty t (inB n xs.length (κ x (.pc (enc .v t (xs.getD n.toNat (El.dflt t))) 0)))
 |.rt r=>match x.h r with
  |some (.arr _ t _ xs)=>gH_ ty t (inB n xs.length (κ x (.pe r n.toNat 0)))
  |some (.ext (some ⟨_,t,_,_,xs⟩))=>gH_ ty t (inB n xs.length (κ x (.pe r n.toNat 0)))
  |_=>none
 |.sr r lo hi=>match x.h r with
  |some (.arr _ t _ xs)=>gH_ ty t (inB n (hi - lo) (κ x (.pe r (lo+n.toNat) 0)))
  |_=>none
 |.ns r st _ _ t ys=>match x.h r with
  |some (.arr m t' st' xs)=>cond (Nat.beq st st') (gH_ ty t (inB n ys.length (κ (x.blk r (some (.arr (m.meet false) t' st' xs))) (.pc (enc .v t (ys.getD n.toNat (El.dflt t))) 0)))) none
  |_=>none
 |_=>none
def lenOf (ty:Option TD) (x:X):AV→Option Nat
 |.s l=>strB ty (some l.length)
 |.sl .v t xs=>slB ty (some xs.length)
 |.rt r=>match x.h r with
  |some (.arr _ _ _ xs)=>slB ty (some xs.length)
  |_=>none
 |.sr r lo hi=>match x.h r with
  |some (.arr _ _ _ _)=>slB ty (some (hi - lo))
  |_=>none
 |.ns r st _ _ t ys=>match x.h r with
  |some (.arr _ _ st' _)=>cond (Nat.beq st st') (slB ty (some ys.length)) none
  |_=>none
 |.nils=>slB ty (some 0)
 |_=>none
def fB_ (v:Option AV) (dflt:Nat):Option Int :=
 match v with
 |none=>some dflt
 |some (.i _ n)=>some n
 |_=>none
def j6_ (lo hi:Int) (len:Nat) (κ:Option ω):Option ω:=cond (decide (0≤lo)) (cond (decide (lo≤hi)) (cond (decide (hi≤(len:Int))) κ none) none) none
def fa_ (ty:Option TD) (x:X) (a:AV) (lo hi:Option AV) (κ:AV→Option ω):Option ω :=
 match lenOf ty x a with
 |none=>none
 |some len=>match fB_ lo 0,fB_ hi len with
  |some l,some h=>match a with
   |.s b=>j6_ l h len (κ (.s ((b.take h.toNat).drop l.toNat)))
   |.sl .v t xs=>gH_ ty t (j6_ l h len (κ (.sl .v t ((xs.take h.toNat).drop l.toNat))))
   |.rt r=>match x.h r with
    |some (.arr _ t _ _)=>gH_ ty t (j6_ l h len (κ (.sr r l.toNat h.toNat)))
    |_=>none
   |.sr r lo _=>match x.h r with
    |some (.arr _ t _ _)=>gH_ ty t (j6_ l h len (κ (.sr r (lo+l.toNat) (lo+h.toNat))))
    |_=>none
   |_=>none
  |_,_=>none
def if_ (x:X):AV→Option (X × (t:TC) × List (El t) × Bool)
 |.sl .v t ys=>some (x,⟨t,ys,t.flat⟩)
 |.rt r=>match x.h r with
  |some (.arr m t st ys)=>cond t.flat (some (x,⟨t,ys,true⟩)) (some (x.blk r none,⟨t,ys,match m with | .d=>true|_=>false⟩))
  |_=>none
 |.sr r lo hi=>match x.h r with
  |some (.arr m t st ys)=>some (x.blk r (some (.arr (m.meet t.flat) t st ys)),⟨t,(ys.take hi).drop lo,t.flat⟩)
  |_=>none
 |_=>none
def cl_ (n:Nat) (bytes:Nat) (κ:Option ω):Option ω:=cond (decide (n*bytes≤140737488355328)) κ none
def e7_ (te:TC) (x:X) (d:Nat) (a y:AV) (κ:X→AV→Option ω):Option ω :=
 match if_ x y with
 |none=>none
 |some (x,⟨t,ys,ok⟩)=>cond (decide (t=te)) (match a with
  |.nils=>cl_ ys.length t.bytes (x.new d (.arr (M.meet .d ok) t 0 ys) fun x=>κ x (.rt d))
  |.rt r=>match x.h r with
   |some (.arr m t' _ xs)=>if h:t'=t then
     cl_ (xs.length+ys.length) t.bytes ((x.blk r none).new d (.arr (m.meet ok) t 0 ((h ▸ xs)++ys)) fun x=>κ x (.rt d))
    else none
   |_=>none
  |_=>none) none
def eE_:List CK→List AV→List AV→Option Bool
 |[],[],[]=>some true
 |k::ks,a::l,b::r=>match eE_ ks l r with
  |none=>none
  |some q=>match k,a,b with
   |.i,.i k x,.i k' y=>cond (decide (k=k')) (some (cond (x == y) q false)) none
   |.b,.b x,.b y=>some (cond (x == y) q false)
   |.s,.s x,.s y=>some (cond (x == y) q false)
   |_,_,_=>none
 |_,_,_=>none
def mM_ (ty:Option TD) (op:BinOp) (a b:AV) (κ:AV→Option ω):Option ω :=
 match ty with
 |some td=>match a,b with
  |.ag xs,.ag ys=>match td.cmp with
   |[]=>none
   |k::ks=>match eE_ (k::ks) xs ys with
    |some q=>match op with
     |.eql=>κ (.b q)
     |.neq=>κ (.b (!q))
     |_=>none
    |none=>none
  |_,_=>none
 |none=>none
def erEq (ty:Option TD) (cn:Bool) (op:BinOp) (a b:AV) (κ:AV→Option ω):Option ω :=
 match ty with
 |some td=>cond (td.isIf&&cn) (match a,b with
  |.er q,.nili=>match op with
   |.eql=>κ (.b q)
   |.neq=>κ (.b (!q))
   |_=>none
  |_,_=>none) none
 |none=>none
def AV.isEr:AV→Bool
 |.er _=>true
 |_=>false
def opC:Operand→Bool
 |.const _=>true
 |_=>false
def AV.isAg:AV→Bool
 |.ag _=>true
 |_=>false
def e1_ (op:BinOp) (isB:Bool) (x y:AV) (κ:AV→Option ω):Option ω :=
 match x,y with
 |.i k a,.i k' b=>
  match op with
  |.add=>cond (decide (k=k')) (κ (.i k (k.wrap (a+b)))) none
  |.sub=>cond (decide (k=k')) (κ (.i k (k.wrap (a - b)))) none
  |.mul=>cond (decide (k=k')) (κ (.i k (k.wrap (a*b)))) none
  |.quo=>cond (decide (k=k')) (cond (decide (b=0)) none (κ (.i k (k.wrap (a.tdiv b))))) none
  |.rem=>cond (decide (k=k')) (cond (decide (b=0)) none (κ (.i k (a.tmod b)))) none
  |.eql=>cond (decide (k=k')) (κ (.b (a == b))) none
  |.neq=>cond (decide (k=k')) (κ (.b (a != b))) none
  |.lss=>cond (decide (k=k')) (κ (.b (decide (a<b)))) none
  |.leq=>cond (decide (k=k')) (κ (.b (decide (a≤b)))) none
  |.gtr=>cond (decide (k=k')) (κ (.b (decide (a > b)))) none
  |.geq=>cond (decide (k=k')) (κ (.b (decide (a≥b)))) none
  |.and=>cond (decide (k=k')) (κ (.i k (k.wrap (BitVec.ofInt k.bits a &&& BitVec.ofInt k.bits b).toNat))) none
  |.or=>cond (decide (k=k')) (κ (.i k (k.wrap (BitVec.ofInt k.bits a ||| BitVec.ofInt k.bits b).toNat))) none
  |.xor=>cond (decide (k=k')) (κ (.i k (k.wrap (BitVec.ofInt k.bits a ^^^ BitVec.ofInt k.bits b).toNat))) none
  |.shr=>cond (decide (b<0)) none (κ (.i k (a.fdiv (2 ^ min b.toNat k.bits))))
  |_=>none
 |.s a,.s b=>
  match op with
  |.add=>cond (decide (a.length+b.length≤9223372036854775807)) (κ (.s (a++b))) none
  |.eql=>κ (.b (a == b))
  |.neq=>κ (.b (!(a == b)))
  |.lss=>κ (.b (Op.bytesLess a b))
  |.geq=>κ (.b (!Op.bytesLess a b))
  |.gtr=>κ (.b (!(Op.bytesLess a b||a == b)))
  |.leq=>κ (.b (Op.bytesLess a b||a == b))
  |_=>none
 |.b a,.b b=>
  match op with
  |.eql=>cond isB (κ (.b (a == b))) none
  |.neq=>cond isB (κ (.b (!(a == b)))) none
  |_=>none
 |_,_=>none
def fH_ (src dst:Option TD) (x:X) (a:AV) (κ:AV→Option ω):Option ω :=
 match src,dst with
 |some e,some d=>match d.kind,d.isStr,e.kind,e.elem,a with
  |some k,_,some _,_,.i _ n=>κ (.i k (k.wrap n))
  |none,true,_,some .u8,.rt r=>match x.h r with
   |some (.arr _ .u8 _ xs)=>κ (.s (List.map (fun n:Int=>UInt8.ofNat n.toNat) xs))
   |_=>none
  |none,true,_,some .u8,.sl .v .u8 xs=>κ (.s (List.map (fun n:Int=>UInt8.ofNat n.toNat) xs))
  |none,true,_,some .u8,.nils=>κ (.s [])
  |_,_,_,_,_=>none
 |_,_=>none
def fill (fields:List (Nat × Nat)):List AV→List (Nat × AV)→Option (List AV)
 |cs,[]=>some cs
 |cs,(i,v)::l=>match fields[i]? with
  |some (off,n)=>cond (Nat.beq v.cells.length n&&v.cells.all AV.one&&Nat.ble (off+n) cs.length) (fill fields (setRange cs off v.cells) l) none
  |none=>none
def eR_ (t:TC) (x:X):List AV→Option (X × List (El t) × Bool)
 |[]=>some (x,[],true)
 |v::l=>match bc_ x v.cells with
  |none=>none
  |some (x,cs,ok)=>match dec t cs with
   |none=>none
   |some y=>match eR_ t x l with
    |none=>none
    |some (x,ys,ok')=>some (x,y::ys,ok&&ok')
def AV.plain:AV→Bool
 |.i _ _ | .b _ | .s _ | .nils | .nili | .er _=>true
 |.sl .v _ _=>true
 |.pc _ _=>true
 |_=>false
def fI_ (x:X):List AV→Option (List AV × List Nat)
 |[]=>some ([],[])
 |c::l=>match fI_ x l with
  |none=>none
  |some (l',q)=>match c with
   |.pb r off=>match x.h r with
    |some (.box cs)=>cond (cs.all AV.plain) (some (.pc cs off::l',r::q)) none
    |_=>none
   |c=>cond c.plain (some (c::l',q)) none
mutual
def cd_ (x:X):PS→AV→Option (X × AV × List (Nat × Blk) × List Nat)
 |.ag ps,.ag cs=>match bX_ x ps cs with
  |some (x,cs,ws,q)=>some (x,.ag cs,ws,q)
  |none=>none
 |.ptr ps,.pb r off=>match x.h r with
  |some (.box cs)=>match bX_ (x.blk r none) ps cs with
   |some (x,cs',[],q)=>cond (Nat.beq off 0) (some (x,.bx cs',[(r,.box cs)],q)) none
   |_=>none
  |_=>none
 |.o,.rt r=>match x.h r with
  |some (.arr m t _ xs)=>some (x.blk r none,.sl m t xs,[],[])
  |_=>none
 |.mu,.rt r=>match x.h r with
  |some (.arr m t st xs)=>some (x.blk r none,.sl m t xs,[(r,.arr m t st xs)],[])
  |_=>none
 |.v,.rt r=>match x.h r with
  |some (.arr _ t _ xs)=>some (x,.sl .v t xs,[],[r])
  |_=>none
 |.v,.sr r lo hi=>match x.h r with
  |some (.arr _ t _ xs)=>some (x,.sl .v t ((xs.take hi).drop lo),[],[r])
  |_=>none
 |.v,.ns r st _ _ t ys=>match x.h r with
  |some (.arr _ _ st' _)=>cond (Nat.beq st st') (some (x,.sl .v t ys,[],[r])) none
  |_=>none
 |.v,.sl .v t xs=>some (x,.sl .v t xs,[],[])
 |.v,.i k n=>some (x,.i k n,[],[])
 |.v,.b k=>some (x,.b k,[],[])
 |.v,.s k=>some (x,.s k,[],[])
 |.v,.nils=>some (x,.nils,[],[])
 |.v,.nili=>some (x,.nili,[],[])
 |.v,.er q=>some (x,.er q,[],[])
 |.v,.pc cs off=>some (x,.pc cs off,[],[])
 |.v,.clo f cs=>match fI_ x cs with
  |some (cs,q)=>some (x,.clo f cs,[],q)
  |none=>none
 |.o,.nils=>some (x,.nils,[],[])
 |_,_=>none
def bX_ (x:X):List PS→List AV→Option (X × List AV × List (Nat × Blk) × List Nat)
 |[],[]=>some (x,[],[],[])
 |p::ps,c::cs=>match cd_ x p c with
  |some (x,c,w,q)=>match bX_ x ps cs with
   |some (x,cs,ws,q')=>some (x,c::cs,w++ws,q++q')
   |none=>none
  |none=>none
 |_,_=>none
end
mutual
def dQ_ (d:Nat) (x:X) (k:Nat):AV→(X→Nat→AV→Option ω)→Option ω
 |.sl m t xs,κ=>match m with
  |.v=>κ x k (.sl .v t xs)
  |m=>x.new (d*16+k) (.arr m t 0 xs) fun x=>κ x (k+1) (.rt (d*16+k))
 |.bx cs,κ=>dr_ d x k cs fun x k cs=>cond (cs.all AV.one) (x.new (d*16+k) (.box cs) fun x=>κ x (k+1) (.pb (d*16+k) 0)) none
 |.ag cs,κ=>dr_ d x k cs fun x k cs=>cond (cs.all AV.one) (κ x k (.ag cs)) none
 |.tu cs,κ=>dr_ d x k cs fun x k cs=>cond (cs.all fun c => !c.isTu) (κ x k (.tu cs)) none
 |c,κ=>κ x k c
def dr_ (d:Nat) (x:X) (k:Nat):List AV→(X→Nat→List AV→Option ω)→Option ω
 |[],κ=>κ x k []
 |c::cs,κ=>dQ_ d x k c fun x k c=>dr_ d x k cs fun x k cs=>κ x k (c::cs)
end
mutual
def AV.shows:AV→Bool
 |.sl .v _ _=>true
 |.sl .s t _ => !t.flat
 |.sl .d _ _=>false
 |.pc _ _=>true
 |.clo _ (_::_)=>true
 |.ag cs=>AV.showsAll cs
 |.tu cs=>AV.showsAll cs
 |.bx cs=>AV.showsAll cs
 |_=>false
def AV.showsAll:List AV→Bool
 |[]=>false
 |c::cs=>c.shows||AV.showsAll cs
end
def jz_ (x:X) (r:Nat) (κ:Option ω):Option ω :=
 match x.h r with
 |none=>κ
 |some _=>none
def bD_ (d:Nat) (x:X) (k:Nat):List (Nat × Blk)→List AV→(X→Nat→Option ω)→Option ω
 |[],[],κ=>κ x k
 |(r,.arr _ t st xs)::rs,.sl m t' ys::vs,κ=>match m with
  |.v=>none
  |m=>cond (decide (t'=t)) (cond (Nat.beq ys.length xs.length) (jz_ x r (bD_ d (x.blk r (some (.arr m t' (st+1) ys))) k rs vs κ)) none) none
 |(r,.box cs)::rs,.bx cs'::vs,κ=>cond (Nat.beq cs'.length cs.length) (dr_ d x k cs' fun x k cs'=>cond (cs'.all AV.one) (jz_ x r (bD_ d (x.blk r (some (.box cs'))) k rs vs κ)) none) none
 |_,_,_=>none
def fJ_ (x:X) (a:AV) (κ:Option ω):Option ω :=
 match a with
 |.pb r _=>match x.h r with
  |some (.box _)=>κ
  |_=>none
 |.pe r _ _=>match x.h r with
  |some (.arr ..)=>κ
  |_=>none
 |.pc _ _=>κ
 |_=>none
def cv_ (o:Oper):Nat:=match o.dst with
 |some d=>d+1
 |none=>100000
def seqB:Nat→List Nat→Bool
 |_,[]=>true
 |k,i::l=>Nat.beq i k&&seqB (k+1) l
def eP_ (x:X):List Nat→Bool
 |[]=>true
 |r::l=>(match x.h r with|some _=>true|none=>false)&&eP_ x l
def someB:List Nat→Bool
 |[]=>false
 |_::_=>true
def hO_ (c:Cx) (x:X) (d:Nat) (f:Nat) (args:List AV) (κ:X→AV→Option ω):Option ω :=
 match c.sig f with
 |none=>none
 |some ps=>match bX_ x ps args with
  |none=>none
  |some (x,avs,ws,q)=>cond (eP_ x q) (c.K ω f avs fun r outs=>cond (someB q&&AV.showsAll (r::outs)) none
   (bD_ d x 0 ws outs fun x k=>dQ_ d x k r fun x _ v=>κ x v)) none
def kJ_ (x:X):PS→AV→Option (X × AV)
 |.v,.rt r=>match x.h r with
  |some (.arr _ t _ xs)=>some (x.blk r none,.sl .v t xs)
  |_=>none
 |.v,.sr r lo hi=>match x.h r with
  |some (.arr _ t _ xs)=>some (x.blk r none,.sl .v t ((xs.take hi).drop lo))
  |_=>none
 |.v,.ns r st _ _ t ys=>match x.h r with
  |some (.arr m t' st' xs)=>cond (Nat.beq st st') (some (x.blk r (some (.arr (m.meet false) t' st' xs)),.sl .v t ys)) none
  |_=>none
 |.v,.pb r off=>match x.h r with
  |some (.box cs)=>cond (cs.all AV.plain) (some (x.blk r none,.pc cs off)) none
  |_=>none
 |_,a=>some (x,a)
def jY_ (x:X):List PS→List AV→Option (X × List AV)
 |p::ps,a::az=>match kJ_ x p a with
  |some (x,a)=>match jY_ x ps az with
   |some (x,az)=>some (x,a::az)
   |none=>none
  |none=>none
 |[],[]=>some (x,[])
 |_,_=>none
def jZ_ (x:X) (f:FuncId) (cs:List AV):Option (X × AV):=match jY_ x (cs.map fun _=>.v) cs with
 |some (x,cs)=>some (x,.clo f cs)
 |none=>none
def frz (x:X):PS→AV→Option (X × AV)
 |.ag ps,.ag cs=>match jY_ x ps cs with
  |some (x,cs)=>some (x,.ag cs)
  |none=>none
 |_,.ag cs=>some (x,.ag cs)
 |_,.tu cs=>some (x,.tu cs)
 |_,.clo f cs=>jZ_ x f cs
 |p,a=>kJ_ x p a
def ez_ (x:X):List PS→List AV→Option (X × List AV)
 |p::ps,a::az=>match frz x p a with
  |some (x,a)=>match ez_ x ps az with
   |some (x,az)=>some (x,a::az)
   |none=>none
  |none=>none
 |[],[]=>some (x,[])
 |_,_=>none
def AV.isSl:AV→Bool
 |.sl .. => true
 |_=>false
def bW_ (d r st i:Nat) (x:X) (j:Nat):List AV→List AV→(X→List AV→Option ω)→Option ω
 |[],es,κ=>match es with
  |[]=>κ x []
  |_=>none
 |c::l,es,κ=>match es with
  |[]=>none
  |e::es=>match c with
   |.ns q s k off t ys=>cond (Nat.beq q r&&Nat.beq s st&&Nat.beq off j) (cond (Nat.beq k i) (x.new (d*16+8+j) (.arr .d t 0 ys) fun x=>bW_ d r st i x (j+1) l es fun x l=>κ x (.rt (d*16+8+j)::l)) none) none
   |.i k n=>cond e.isSl none (bW_ d r st i x (j+1) l es fun x l=>κ x (.i k n::l))
   |.b q=>cond e.isSl none (bW_ d r st i x (j+1) l es fun x l=>κ x (.b q::l))
   |.s q=>cond e.isSl none (bW_ d r st i x (j+1) l es fun x l=>κ x (.s q::l))
   |_=>none
def kk_:List AV→Option (Nat × Nat × Nat)
 |[]=>none
 |.ns r st i _ _ _::_=>some (r,st,i)
 |_::l=>kk_ l
def keeps:List PS→Bool
 |[]=>false
 |.o::_=>true
 |_::l=>keeps l
def lf_ (d:Nat) (x:X) (p:PS) (a:AV) (κ:X→AV→Option ω):Option ω :=
 match p,a with
 |.ag ps,.ag cs=>cond (keeps ps) (match kk_ cs with
  |some (r,st,i)=>match x.h r with
   |some (.arr .d t st' xs)=>cond (Nat.beq st' st) (bW_ d r st i (x.blk r (some (.ext (some ⟨.d,t,st+1,i,xs⟩)))) 0 cs (enc .d t (xs.getD i (El.dflt t))) fun x cs=>κ x (.ag cs)) none
   |_=>none
  |none=>κ x (.ag cs)) (κ x (.ag cs))
 |_,a=>κ x a
def e3_ (d:Nat) (x:X):List PS→List AV→(X→List AV→Option ω)→Option ω
 |p::ps,a::az,κ=>lf_ d x p a fun x a=>e3_ d x ps az fun x az=>κ x (a::az)
 |_,az,κ=>κ x az
def kQ_ (c:Cx) (x:X) (d:Nat) (f:Nat) (args:List AV) (κ:X→AV→Option ω):Option ω :=
 cond (c.fz f) (match c.sig f with
  |some ps=>match ez_ x ps args with
   |some (x,args)=>hO_ c x d f args κ
   |none=>none
  |none=>none) (hO_ c x d f args κ)
def kR_ (c:Cx) (x:X) (d:Nat) (f:Nat) (args:List AV) (κ:X→AV→Option ω):Option ω:=match c.sig f with
 |some ps=>e3_ d x ps args fun x args=>kQ_ c x d f args κ
 |none=>kQ_ c x d f args κ
def cQ_ (c:Cx) (o:Oper) (ρ:Operand→AV) (x:X) (κ:X→AV→Option ω):Option ω :=
 let d:=cv_ o*16
 match o.op with
 |.move a | .assign a=>κ x (ρ a)
 |.pick q a b=>match ρ q with
  |.b t=>cond t (κ x (ρ a)) (κ x (ρ b))
  |_=>none
 |.alloc t=>match c.tt t with
  |some td=>x.new d (.box td.zero) fun x=>κ x (.pb d 0)
  |none=>none
 |.box t a=>match c.tt t with
  |some td=>cond (Nat.beq (ρ a).cells.length td.size&&(ρ a).cells.all AV.one) (x.new d (.box (ρ a).cells) fun x=>κ x (.pb d 0)) none
  |none=>none
 |.build t parts=>match c.tt t with
  |some td=>match fill td.fields td.zero (parts.toList.map fun p=>(p.1,ρ p.2)) with
   |some cs=>cond td.agg (κ x (.ag cs)) none
   |none=>none
  |none=>none
 |.buildSlice t n parts=>match c.tt t with
  |some td=>match td.elem with
   |some te=>cond (Nat.beq n parts.toList.length&&seqB 0 (parts.toList.map fun p=>p.1)&&Nat.ble (n*te.width) 16777216) (match eR_ te x (parts.toList.map fun p=>ρ p.2) with
    |some (x,xs,ok)=>x.new d (.arr (M.meet .d ok) te 0 xs) fun x=>κ x (.rt d)
    |none=>none) none
   |none=>none
  |none=>none
 |.load t a=>match c.tt t with
  |some td=>match loadAt x td.size (ρ a) with
   |some cs=>cond (Nat.beq cs.length td.size&&cs.all AV.cel) (κ x (td.val cs)) none
   |none=>none
  |none=>none
 |.store t a v=>match c.tt t with
  |some td=>cond (Nat.beq (ρ v).cells.length td.size&&(ρ v).cells.all AV.one) (gT_ x (ρ a) (ρ v) (fun x=>κ x (.tu [])) (storeAt x (ρ v).cells (fun x=>κ x (.tu [])) (ρ a))) none
  |none=>none
 |.nilCheck a=>fJ_ x (ρ a) (κ x (ρ a))
 |.binOp op t a b _=>cond (ρ a).isAg (mM_ (c.tt t) op (ρ a) (ρ b) (κ x)) (cond (ρ a).isEr (erEq (c.tt t) (opC b) op (ρ a) (ρ b) (κ x)) (e1_ op (match c.tt t with|some td=>td.isBool|none=>false) (ρ a) (ρ b) (κ x)))
 |.unOp op _ a=>match op,ρ a with
  |.not,.b b=>κ x (.b (!b))
  |.neg,.i k n=>κ x (.i k (k.wrap (0 - n)))
  |_,_=>none
 |.convert src dst a=>fH_ (c.tt src) (c.tt dst) x (ρ a) (κ x)
 |.makeFunc (.func f) first caps=>cond (Nat.beq first.toList.length 0&&(caps.toList.map ρ).all AV.one) (κ x (.clo f (caps.toList.map ρ))) none
 |.makeSlice t l cp=>match c.tt t,ρ l,ρ cp with
  |some td,.i _ n,.i _ n'=>match td.elem with
   |some te=>cond (decide (n=n')) (cond (decide (0≤n)) (cond (decide (n*te.bytes≤140737488355328)) (x.new d (.arr .d te 0 (List.replicate n.toNat (El.dflt te))) fun x=>κ x (.rt d)) none) none) none
   |none=>none
  |_,_,_=>none
 |.slice t a lo hi mx=>match mx with
  |none=>fa_ (c.tt t) x (ρ a) (lo.map ρ) (hi.map ρ) (κ x)
  |some _=>none
 |.fieldAddr t a f=>match c.tt t with
  |some td=>match td.fields[f]? with
   |some (off,_)=>fJ_ x (ρ a) (match ρ a with
    |.pb r o=>κ x (.pb r (o+off))
    |.pe r i o=>κ x (.pe r i (o+off))
    |.pc cs o=>κ x (.pc cs (o+off))
    |_=>none)
   |none=>none
  |none=>none
 |.indexAddr t a ix=>match ρ ix with
  |.i _ n=>indexAt (c.tt t) x (ρ a) n κ
  |_=>none
 |.index t a ix=>match ρ a,ρ ix with
  |.s l,.i _ n=>strB (c.tt t) (inB n l.length (κ x (.i .u8 ((l.getD n.toNat 0).toNat:Int))))
  |_,_=>none
 |.extract t k=>match ρ t with
  |.tu vs=>match vs[k]? with
   |some v=>cond v.isTu none (κ x v)
   |none=>none
  |_=>none
 |.call q=>match q.callee with
  |.builtin .len=>match q.args.toList,q.argTypes.toList with
   |[a],[t]=>match lenOf (c.tt t) x (ρ a) with
    |some n=>κ x (.i .i64 (n:Int))
    |none=>none
   |_,_=>none
  |.builtin .append=>match q.args.toList,q.argTypes.toList with
   |[a,y],[t,t']=>cond (Nat.beq t t') (match c.tt t with
    |some td=>match td.elem with
     |some te=>e7_ te x d (ρ a) (ρ y) κ
     |none=>none
    |none=>none) none
   |_,_=>none
  |.builtin .max=>match q.args.toList with
   |[a,b]=>match ρ a,ρ b with
    |.i k n,.i _ m=>κ x (.i k (cond (decide (m > n)) m n))
    |_,_=>none
   |_=>none
  |.builtin .min=>match q.args.toList with
   |[a,b]=>match ρ a,ρ b with
    |.i k n,.i _ m=>κ x (.i k (cond (decide (m<n)) m n))
    |_,_=>none
   |_=>none
  |.value g=>match ρ g with
   |.clo f caps=>kR_ c x (cv_ o) f ((q.args.toList.map ρ)++caps) κ
   |_=>none
  |_=>none
 |_=>none
def St.put (c:Cx) (s:St) (dst:Option Tmp) (x:X) (v:AV) (κ:St→Option ω):Option ω :=
 match dst with
 |none=>κ ⟨s.tmps,x⟩
 |some d=>cond (Nat.blt d c.nt) (κ ⟨upd s.tmps d v,x⟩) none
def nO_ (c:Cx) (o:Oper) (s:St) (κ:St→Option ω):Option ω :=
 cQ_ c o s.eval s.x fun x v=>s.put c o.dst x v κ
def gu_ (c:Cx) (ops:List Oper) (o:Oper) (s:St) (step:St→(St→Option ω)→Option ω) (κ:St→Option ω):Option ω :=
 match o.guard with
 |none=>step s κ
 |some (j,want)=>match ops[j]? with
  |some oj=>match oj.dst with
   |some dj=>match s.tmps dj with
    |.b b=>cond b
     (let s:St:=⟨upd s.tmps dj (.b true),s.x⟩
      cond want (step s κ) (s.put c o.dst s.x (.tu []) κ))
     (let s:St:=⟨upd s.tmps dj (.b false),s.x⟩
      cond want (s.put c o.dst s.x (.tu []) κ) (step s κ))
    |.tu []=>s.put c o.dst s.x (.tu []) κ
    |_=>none
   |none=>none
  |none=>none
def opsK (c:Cx) (ops:List Oper):List Oper→St→(St→Option ω)→Option ω
 |[],s,κ=>κ s
 |o::l,s,κ=>gu_ c ops o s (nO_ c o) fun s=>opsK c ops l s κ
def AV.refs:AV→List Nat
 |.rt r=>[r]
 |.sr r _ _=>[r]
 |.ns r _ _ _ _ _=>[r]
 |.pb r _=>[r]
 |.pe r _ _=>[r]
 |_=>[]
def AV.refsD:AV→List Nat
 |.ag cs=>cs.flatMap AV.refs
 |.clo _ cs=>cs.flatMap AV.refs
 |c=>c.refs
def eC_ (l:List Nat):List Nat→List Nat
 |[]=>l
 |r::rs=>eC_ (cond (l.any (Nat.beq r)) l (l++[r])) rs
def Blk.refs:Blk→List Nat
 |.box cs=>cs.flatMap AV.refs
 |_=>[]
def jA_ (h:Nat→Option Blk):Nat→List Nat→List Nat
 |0,l=>l
 |n+1,l=>jA_ h n (eC_ l (l.flatMap fun r=>match h r with|some b=>b.refs|none=>[]))
def accN (o:Oper):Nat:=match o.op with
 |.fieldAddr .. => 0
 |.load .. => 0
 |_=>2
def isMove (o:Oper):Bool:=match o.op with
 |.move _=>true
 |_=>false
def gm_ (s:St) (o:Oper):List Nat:=cond (isMove o) [] (jA_ s.x.h (accN o) (eC_ [] (o.op.operands.toList.flatMap fun a=>(s.eval a).refsD)))
def inR (acc:List Nat) (d r:Nat):Bool:=acc.any (Nat.beq r)||Nat.beq (r / 16) d
end
end Go.Pi
end
section
namespace Go.Pi
structure Env where
 P:Program
 eid:TC→TypeId
 globs:List (Nat × (Array Value→Prop)):=[]
def Glob (E:Env) (w:World) (F:Nat→Prop):Prop:=∀ p,p ∈ E.globs→(∃ cs T fr,w.heap[p.1]?=some (.cells cs T fr)∧p.2 cs)∧¬ F p.1
def AV.asView:AV→AV
 |.sl _ t xs=>.sl .v t xs
 |.bx _=>.u
 |.ag _=>.u
 |.tu _=>.u
 |a=>a
def bP_ (v:Value) (b:Nat):Nat:=match v with
 |.slice (some a) _ _=>if a.block=b then 1 else 0
 |_=>0
def AV.sim (m:M):AV→AV→Prop
 |.sl _ t xs,c=>c = .sl m t xs
 |.nils,c=>∃ t,c = .sl m t []
 |.i k n,c=>c = .i k n
 |.b q,c=>c = .b q
 |.s l,c=>c = .s l
 |_,_=>False
def sims (m:M):List AV→List AV→Prop
 |[],[]=>True
 |a::l,c::r=>AV.sim m a c∧sims m l r
 |_,_=>False
def AV.okD:AV→Bool
 |.sl .d _ _=>true
 |.sl .s t _=>t.flat
 |.sl .v _ _=>false
 |_=>true
section
variable {w w':World}
theorem gU_ {b o:Nat} {vals:List Value} (h:w.rangeAt b o vals) (e:w'.heap[b]?=w.heap[b]?):w'.rangeAt b o vals:=by
 intro j v hj
 rw [World.cell?_of_block (a:=⟨b,o+j,none⟩) e]
 exact h j v hj
theorem fr_ {base e size:Nat} {v:Value} {n:Nat} {xs:List Value} (h:w.ownsRow base e size v n xs) (hb:∀ b,bP_ v b≠0→w'.heap[b]?=w.heap[b]?):w'.ownsRow base e size v n xs:=by
 refine ⟨h.1,?_⟩
 rcases h.2 with hn|⟨g,cap,cur,rfl,hbb,hg,gP_⟩
 · exact .inl hn
 · exact .inr ⟨g,cap,cur,rfl,hbb,by rw [hb g (by simp [bP_])];exact hg,gP_⟩
end
variable [ao_]
open ao_
class aq_:Prop where
 len:∀ m t x,(enc m t x).length=t.width
 pos:∀ t:TC,0<t.width
 view:∀ m t x,(enc m t x).map AV.asView=enc .v t x
 flat:∀ m m' t x,t.flat=true→enc m t x=enc m' t x
 cell:∀ m t x a,a ∈ enc m t x→(∃ k n,a = .i k n)∨(∃ q,a = .b q)∨(∃ l,a = .s l)∨∃ t' xs,a = .sl m t' xs
 dec:∀ m t cs (y:El t),dec t cs=some y→sims m cs (enc m t y)
 u8:∀ m (n:El .u8),enc m .u8 n=[.i .u8 (show Int from n)]
def aV_ (m:M) (t:TC) (xs:List (El t)):List AV:=xs.flatMap (enc m t)
def scl:AV→Value→Prop
 |.i k n,v=>v = .int k n
 |.b q,v=>v = .bool q
 |.s l,v=>v = .string ⟨l.toArray⟩
 |.nils,v=>v = .slice none 0 0
 |.nilp,v=>v = .pointer none
 |.nili,v=>v = .nilIface
 |.er q,v=>(q=true→v = .nilIface)∧(q=false→∃ t u,v = .iface t u)
 |.u,_=>True
 |.clo f [],v=>v = .func (.func f) #[] #[]
 |_,_=>False
inductive RL (E:Env) (w:World) (F:Nat→Prop):List AV→List Value→(Nat→Nat)→Prop
 |nil (φ):(∀ b,φ b=0)→RL E w F [] [] φ
 |scal (a v l vs φ):scl a v→RL E w F l vs φ→RL E w F (a::l) (v::vs) φ
 |view (t xs a n cap vals z l vs φ):n=xs.length∧n≤cap→RL E w F (aV_ .v t xs) vals z→(∀ b,z b=0) →
   (0<n→∃ b o,a=some ⟨b,o,none⟩∧w.rangeAt b o vals∧b<w.heap.size∧¬ F b)→RL E w F l vs φ →
   RL E w F (.sl .v t xs::l) (.slice a n cap::vs) φ
 |own (m t xs v vals φ₁ l vs φ₂ φ):m ≠ .v→w.ownsRow 0 (E.eid t) t.width v xs.length vals→RL E w F (aV_ m.sub t xs) vals φ₁ →
   (∀ b,bP_ v b≠0→F b)→RL E w F l vs φ₂→(∀ b,φ b=bP_ v b+φ₁ b+φ₂ b)→RL E w F (.sl m t xs::l) (v::vs) φ
 |pc (cs b o off vals z l vs φ):RL E w F cs vals z→(∀ b,z b=0)→w.rangeAt b o vals→b<w.heap.size→¬ F b→RL E w F l vs φ →
   RL E w F (.pc cs off::l) (.pointer (some ⟨b,o+off,none⟩)::vs) φ
 |bx (cs g T cur φ₁ l vs φ₂ φ):w.heap[g]?=some (.cells (List.toArray cur) T (0,0))→RL E w F cs cur φ₁→F g→RL E w F l vs φ₂ →
   (∀ b,φ b=(if g=b then 1 else 0)+φ₁ b+φ₂ b)→RL E w F (.bx cs::l) (.pointer (some ⟨g,0,none⟩)::vs) φ
 |ag (cs us φ₁ l vs φ₂ φ):RL E w F cs us φ₁→RL E w F l vs φ₂→(∀ b,φ b=φ₁ b+φ₂ b)→RL E w F (.ag cs::l) (.agg us.toArray::vs) φ
 |tu (cs us φ₁ l vs φ₂ φ):RL E w F cs us φ₁→RL E w F l vs φ₂→(∀ b,φ b=φ₁ b+φ₂ b)→RL E w F (.tu cs::l) (.tuple us.toArray::vs) φ
 |clo (f cs us z l vs φ):RL E w F cs us z→(∀ b,z b=0)→RL E w F l vs φ→RL E w F (.clo f cs::l) (.func (.func f) #[] us.toArray::vs) φ
variable {E:Env} {w w':World} {F F':Nat→Prop}
theorem RL.congr {l vs φ ψ} (h:RL E w F l vs φ) (e:∀ b,φ b=ψ b):RL E w F l vs ψ:=by
 have:φ=ψ:=funext e
 exact this ▸ h
theorem RL.length {l vs φ} (h:RL E w F l vs φ):l.length=vs.length:=by
 induction h<;>simp_all
theorem RL.frame {l vs φ} (h:RL E w F l vs φ) (hs:w.heap.size≤w'.heap.size) (hφ:∀ b,φ b≠0→w'.heap[b]?=w.heap[b]?∧F' b)
  (hv:∀ b,b<w.heap.size→¬ F b→w'.heap[b]?=w.heap[b]?∧¬ F' b):RL E w' F' l vs φ:=by
 induction h with
 |nil φ h0=>exact .nil φ h0
 |scal a v l vs φ hsc _ ih=>exact .scal a v l vs φ hsc (ih hφ)
 |view t xs a n cap vals z l vs φ hn _ hz hb _ ih1 ih2=>
  refine .view t xs a n cap vals z l vs φ hn (ih1 fun b hb=>absurd (hz b) hb) hz (fun h0 => ?_) (ih2 hφ)
  obtain ⟨b,o,rfl,hr,hlt,hF⟩:=hb h0
  exact ⟨b,o,rfl,gU_ hr (hv b hlt hF).1,Nat.lt_of_lt_of_le hlt hs,(hv b hlt hF).2⟩
 |own m t xs v vals φ₁ l vs φ₂ φ hm how _ hF _ he ih1 ih2=>
  refine .own m t xs v vals φ₁ l vs φ₂ φ hm (fr_ how fun b hb=>(hφ b (by rw [he];omega)).1) (ih1 fun b hb=>hφ b (by rw [he];omega)) (fun b hb=>(hφ b (by rw [he];omega)).2) (ih2 fun b hb=>hφ b (by rw [he];omega)) he
 |pc cs b o off vals z l vs φ _ hz hr hlt hF _ ih1 ih2=>
  exact .pc cs b o off vals z l vs φ (ih1 fun b hb=>absurd (hz b) hb) hz (gU_ hr (hv b hlt hF).1) (Nat.lt_of_lt_of_le hlt hs) (hv b hlt hF).2 (ih2 hφ)
 |bx cs g T cur φ₁ l vs φ₂ φ hg _ hF _ he ih1 ih2=>
  have h1:=hφ g (by rw [he,if_pos rfl];omega)
  exact .bx cs g T cur φ₁ l vs φ₂ φ (by rw [h1.1];exact hg) (ih1 fun b hb=>hφ b (by rw [he];omega)) h1.2 (ih2 fun b hb=>hφ b (by rw [he];omega)) he
 |ag cs us φ₁ l vs φ₂ φ _ _ he ih1 ih2=>exact .ag cs us φ₁ l vs φ₂ φ (ih1 fun b hb=>hφ b (by rw [he];omega)) (ih2 fun b hb=>hφ b (by rw [he];omega)) he
 |tu cs us φ₁ l vs φ₂ φ _ _ he ih1 ih2=>exact .tu cs us φ₁ l vs φ₂ φ (ih1 fun b hb=>hφ b (by rw [he];omega)) (ih2 fun b hb=>hφ b (by rw [he];omega)) he
 |clo f cs us z l vs φ _ hz _ ih1 ih2=>exact .clo f cs us z l vs φ (ih1 fun b hb=>absurd (hz b) hb) hz (ih2 hφ)
theorem RL.low {l vs φ} (h:RL E w F l vs φ):∀ b,φ b≠0→F b∧b<w.heap.size:=by
 induction h with
 |nil φ h0=>intro b hb;exact absurd (h0 b) hb
 |scal a v l vs φ hsc _ ih=>exact ih
 |view t xs a n cap vals z l vs φ hn _ hz hb _ ih1 ih2=>exact ih2
 |own m t xs v vals φ₁ l vs φ₂ φ hm how _ hF _ he ih1 ih2=>
  intro b hb
  rw [he] at hb
  by_cases h1:bP_ v b=0
  · by_cases h2:φ₁ b=0
    · exact ih2 b (by omega)
    · exact ih1 b h2
  · refine ⟨hF b h1,?_⟩
    rcases how.2 with ⟨rfl,_⟩|⟨g,cap,cur,rfl,hbb,hg,gP_⟩
    · simp [bP_] at h1
    · have:g=b:=by simp [bP_] at h1;exact h1
      subst this
      exact (Array.getElem?_eq_some_iff.1 hg).1
 |pc cs b o off vals z l vs φ _ hz hr hlt hF _ ih1 ih2=>exact ih2
 |bx cs g T cur φ₁ l vs φ₂ φ hg _ hF _ he ih1 ih2=>
  intro b hb
  rw [he] at hb
  by_cases h1:g=b
  · subst h1;exact ⟨hF,(Array.getElem?_eq_some_iff.1 hg).1⟩
  · by_cases h2:φ₁ b=0
    · exact ih2 b (by simp [h1] at hb;omega)
    · exact ih1 b h2
 |ag cs us φ₁ l vs φ₂ φ _ _ he ih1 ih2=>
  intro b hb;rw [he] at hb
  by_cases h2:φ₁ b=0
  · exact ih2 b (by omega)
  · exact ih1 b h2
 |tu cs us φ₁ l vs φ₂ φ _ _ he ih1 ih2=>
  intro b hb;rw [he] at hb
  by_cases h2:φ₁ b=0
  · exact ih2 b (by omega)
  · exact ih1 b h2
 |clo f cs us z l vs φ _ hz _ ih1 ih2=>exact ih2
theorem RL.append {l vs φ} (h:RL E w F l vs φ):∀ {l' vs' φ' ψ},RL E w F l' vs' φ'→(∀ b,ψ b=φ b+φ' b)→RL E w F (l++l') (vs++vs') ψ:=by
 induction h with
 |nil φ h0=>intro l' vs' φ' ψ h' e;exact h'.congr fun b=>by rw [e,h0];omega
 |scal a v l vs φ hsc _ ih=>intro l' vs' φ' ψ h' e;exact .scal a v _ _ _ hsc (ih h' e)
 |view t xs a n cap vals z l vs φ hn h1 hz hb _ _ ih2=>intro l' vs' φ' ψ h' e;exact .view t xs a n cap vals z _ _ _ hn h1 hz hb (ih2 h' e)
 |own m t xs v vals φ₁ l vs φ₂ φ hm how h1 hF _ he _ ih2=>intro l' vs' φ' ψ h' e;exact .own m t xs v vals φ₁ _ _ _ _ hm how h1 hF (ih2 h' fun b=>rfl) fun b=>by rw [e,he];omega
 |pc cs b o off vals z l vs φ h1 hz hr hlt hF _ _ ih2=>intro l' vs' φ' ψ h' e;exact .pc cs b o off vals z _ _ _ h1 hz hr hlt hF (ih2 h' e)
 |bx cs g T cur φ₁ l vs φ₂ φ hg h1 hF _ he _ ih2=>intro l' vs' φ' ψ h' e;exact .bx cs g T cur φ₁ _ _ _ _ hg h1 hF (ih2 h' fun b=>rfl) fun b=>by rw [e,he];omega
 |ag cs us φ₁ l vs φ₂ φ h1 _ he _ ih2=>intro l' vs' φ' ψ h' e;exact .ag cs us φ₁ _ _ _ _ h1 (ih2 h' fun b=>rfl) fun b=>by rw [e,he];omega
 |tu cs us φ₁ l vs φ₂ φ h1 _ he _ ih2=>intro l' vs' φ' ψ h' e;exact .tu cs us φ₁ _ _ _ _ h1 (ih2 h' fun b=>rfl) fun b=>by rw [e,he];omega
 |clo f cs us z l vs φ h1 hz _ _ ih2=>intro l' vs' φ' ψ h' e;exact .clo f cs us z _ _ _ h1 hz (ih2 h' e)
theorem RL.uncons {a l vs φ} (h:RL E w F (a::l) vs φ):∃ v vs' φ₁ φ₂,vs=v::vs'∧RL E w F [a] [v] φ₁∧RL E w F l vs' φ₂∧∀ b,φ b=φ₁ b+φ₂ b:=by
 cases h with
 |scal _ v _ vs _ hsc h2=>exact ⟨v,vs,fun _=>0,φ,rfl,.scal _ _ _ _ _ hsc (.nil _ fun _=>rfl),h2,fun b=>by simp only [Nat.zero_add]⟩
 |view t xs a n cap vals z _ vs _ hn h1 hz hb h2=>exact ⟨_,vs,fun _=>0,φ,rfl,.view t xs a n cap vals z _ _ _ hn h1 hz hb (.nil _ fun _=>rfl),h2,fun b=>by simp only [Nat.zero_add]⟩
 |own m t xs v vals φ₁ _ vs φ₂ _ hm how h1 hF h2 he=>exact ⟨v,vs,_,φ₂,rfl,.own m t xs v vals φ₁ _ _ (fun _=>0) (fun b=>bP_ v b+φ₁ b) hm how h1 hF (.nil _ fun _=>rfl) (fun b=>by simp only [Nat.add_zero]),h2,fun b=>by rw [he]⟩
 |pc cs b o off vals z _ vs _ h1 hz hr hlt hF h2=>exact ⟨_,vs,fun _=>0,φ,rfl,.pc cs b o off vals z _ _ _ h1 hz hr hlt hF (.nil _ fun _=>rfl),h2,fun b=>by simp only [Nat.zero_add]⟩
 |bx cs g T cur φ₁ _ vs φ₂ _ hg h1 hF h2 he=>exact ⟨_,vs,_,φ₂,rfl,.bx cs g T cur φ₁ _ _ (fun _=>0) (fun b=>(if g=b then 1 else 0)+φ₁ b) hg h1 hF (.nil _ fun _=>rfl) (fun b=>by simp only [Nat.add_zero]),h2,fun b=>by rw [he]⟩
 |ag cs us φ₁ _ vs φ₂ _ h1 h2 he=>exact ⟨_,vs,φ₁,φ₂,rfl,.ag cs us φ₁ _ _ (fun _=>0) _ h1 (.nil _ fun _=>rfl) (fun b=>by simp only [Nat.add_zero]),h2,he⟩
 |tu cs us φ₁ _ vs φ₂ _ h1 h2 he=>exact ⟨_,vs,φ₁,φ₂,rfl,.tu cs us φ₁ _ _ (fun _=>0) _ h1 (.nil _ fun _=>rfl) (fun b=>by simp only [Nat.add_zero]),h2,he⟩
 |clo f cs us z _ vs _ h1 hz h2=>exact ⟨_,vs,fun _=>0,φ,rfl,.clo f cs us z _ _ _ h1 hz (.nil _ fun _=>rfl),h2,fun b=>by simp only [Nat.zero_add]⟩
theorem RL.cons {a v l vs φ₁ φ₂ φ} (h1:RL E w F [a] [v] φ₁) (h2:RL E w F l vs φ₂) (e:∀ b,φ b=φ₁ b+φ₂ b):RL E w F (a::l) (v::vs) φ:=h1.append h2 e
theorem RL.split:∀ {l l' vs φ},RL E w F (l++l') vs φ→∃ us us' φ₁ φ₂,vs=us++us'∧RL E w F l us φ₁∧RL E w F l' us' φ₂∧∀ b,φ b=φ₁ b+φ₂ b
 |[],l',vs,φ,h=>⟨[],vs,fun _=>0,φ,rfl,.nil _ fun _=>rfl,h,fun b=>by simp only [Nat.zero_add]⟩
 |a::l,l',vs,φ,h=>by
  obtain ⟨v,vs',φ₁,φ₂,rfl,h1,h2,e⟩:=RL.uncons h
  obtain ⟨us,us',ψ₁,ψ₂,rfl,h3,h4,e'⟩:=RL.split h2
  exact ⟨v::us,us',_,ψ₂,rfl,h1.cons h3 (fun b=>rfl),h4,fun b=>by rw [e,e'];omega⟩
theorem RL.nil_inv {vs φ} (h:RL E w F [] vs φ):vs=[]∧∀ b,φ b=0:=by
 cases h with
 |nil _ h0=>exact ⟨rfl,h0⟩
theorem dL_ [aq_] (m:M) (t:TC) (xs:List (El t)):(aV_ m t xs).map AV.asView=aV_ .v t xs:=by
 induction xs with
 |nil=>rfl
 |cons x xs ih=>simp only [aV_,List.flatMap_cons,List.map_append] at *;rw [aq_.view,ih]
theorem RL.seen [aq_] {l vs φ} (h:RL E w F l vs φ) (hφ:∀ b,φ b≠0→¬ F' b) (hv:∀ b,b<w.heap.size→¬ F b→¬ F' b):RL E w F' (l.map AV.asView) vs (fun _=>0):=by
 induction h with
 |nil φ h0=>exact .nil _ fun _=>rfl
 |scal a v l vs φ hsc _ ih=>
  refine .scal _ v _ _ _ ?_ (ih hφ)
  cases a<;>first|exact hsc|(simp [scl] at hsc)
 |view t xs a n cap vals z l vs φ hn h1 hz hb _ ih1 ih2=>
  refine .view t xs a n cap vals (fun _=>0) _ _ _ hn ?_ (fun _=>rfl) (fun h0 => ?_) (ih2 hφ)
  · have:=ih1 fun b hb=>absurd (hz b) hb
    rwa [dL_] at this
  · obtain ⟨b,o,rfl,hr,hlt,hF⟩:=hb h0
    exact ⟨b,o,rfl,hr,hlt,hv b hlt hF⟩
 |own m t xs v vals φ₁ l vs φ₂ φ hm how h1 hF _ he ih1 ih2=>
  have h3:=ih1 fun b hb=>hφ b (by rw [he];omega)
  rw [dL_] at h3
  have h4:=ih2 fun b hb=>hφ b (by rw [he];omega)
  rcases how.2 with ⟨rfl,h0⟩|⟨g,cap,cur,rfl,hbb,hg,hnc,hcm,hcs,htake⟩
  · have hx:xs=[]:=List.eq_nil_of_length_eq_zero h0
    subst hx
    exact .view t [] none 0 0 vals (fun _=>0) _ _ _ ⟨rfl,Nat.le_refl _⟩ h3 (fun _=>rfl) (fun hp=>absurd hp (Nat.lt_irrefl 0)) h4
  · refine .view t xs _ xs.length cap vals (fun _=>0) _ _ _ ⟨rfl,hnc⟩ h3 (fun _=>rfl) (fun hp=>⟨g,0,rfl,?_,(Array.getElem?_eq_some_iff.1 hg).1,hφ g (by rw [he];simp [bP_])⟩) h4
    intro j u hu
    have:=how.cells (g:=g) rfl j u hu
    rwa [Addr.add_mid] at this
 |pc cs b o off vals z l vs φ h1 hz hr hlt hF _ ih1 ih2=>
  exact .pc cs b o off vals z _ _ _ (h1.frame (Nat.le_refl _) (fun b hb=>absurd (hz b) hb) (fun b hlt hF=>⟨rfl,hv b hlt hF⟩)) hz hr hlt (hv b hlt hF) (ih2 hφ)
 |bx cs g T cur φ₁ l vs φ₂ φ hg h1 hF _ he ih1 ih2=>exact .scal _ _ _ _ _ trivial (ih2 fun b hb=>hφ b (by rw [he];omega))
 |ag cs us φ₁ l vs φ₂ φ _ _ he ih1 ih2=>exact .scal _ _ _ _ _ trivial (ih2 fun b hb=>hφ b (by rw [he];omega))
 |tu cs us φ₁ l vs φ₂ φ _ _ he ih1 ih2=>exact .scal _ _ _ _ _ trivial (ih2 fun b hb=>hφ b (by rw [he];omega))
 |clo f cs us z l vs φ h1 hz _ _ ih2=>exact .clo f cs us z _ _ _ (h1.frame (Nat.le_refl _) (fun b hb=>absurd (hz b) hb) (fun b hlt hF=>⟨rfl,hv b hlt hF⟩)) hz (ih2 hφ)
theorem fX_ [aq_] {m m':M} {t:TC} (h:t.flat=true) (xs:List (El t)):aV_ m t xs=aV_ m' t xs:=by
 induction xs with
 |nil=>rfl
 |cons x xs ih=>simp only [aV_,List.flatMap_cons] at *;rw [aq_.flat m m' t x h,ih]
theorem RL.sim_d [aq_]:∀ {cs cs':List AV} {vs φ},RL E w F cs vs φ→sims .d cs cs'→cs.all AV.okD=true→RL E w F cs' vs φ
 |[],[],vs,φ,h,_,_=>h
 |a::cs,c::cs',vs,φ,h,hs,ho=>by
  obtain ⟨hs1,hs2⟩:=hs
  simp only [List.all_cons,Bool.and_eq_true] at ho
  cases h with
  |scal _ v _ vs _ hsc h2=>
   have ih:=RL.sim_d h2 hs2 ho.2
   cases a<;>simp only [AV.sim] at hs1<;>first
    |(subst hs1;exact .scal _ _ _ _ _ hsc ih)
    |(obtain ⟨t,rfl⟩:=hs1
      simp only [scl] at hsc
      subst hsc
      exact .own .d t [] _ [] (fun _=>0) _ _ _ _ (by decide) (World.ownsRow_nil _ _ _ _) (.nil _ fun _=>rfl) (fun b hb=>absurd rfl hb) ih (fun b=>by simp [bP_]))
    |exact hs1.elim
    |simp [scl] at hsc
  |view t xs a n cap vals z _ vs _ hn h1 hz hb h2=>simp [AV.okD] at ho
  |own m t xs v vals φ₁ _ vs φ₂ _ hm how h1 hF h2 he=>
   have ih:=RL.sim_d h2 hs2 ho.2
   simp only [AV.sim] at hs1
   subst hs1
   refine .own .d t xs v vals φ₁ _ _ φ₂ _ (by decide) how ?_ hF ih he
   cases m with
   |v=>exact absurd rfl hm
   |d=>exact h1
   |s=>
    have hf:t.flat=true:=ho.1
    rw [fX_ hf (m:=M.sub .d) (m':=M.sub .s)]
    exact h1
  |pc=>simp [AV.sim] at hs1
  |bx=>simp [AV.sim] at hs1
  |ag=>simp [AV.sim] at hs1
  |tu=>simp [AV.sim] at hs1
  |clo=>simp [AV.sim] at hs1
 |[],_::_,_,_,_,hs,_=>hs.elim
 |_::_,[],_,_,_,hs,_=>hs.elim
theorem RL.sim_v0 [aq_]:∀ {cs cs':List AV} {vs φ},RL E w F (cs.map AV.asView) vs φ→sims .v cs cs'→RL E w F cs' vs φ
 |[],[],vs,φ,h,_=>h
 |a::cs,c::cs',vs,φ,h,hs=>by
  obtain ⟨hs1,hs2⟩:=hs
  obtain ⟨v,vs',φ₁,φ₂,rfl,h1,h2,e⟩:=RL.uncons h
  have ih:=RL.sim_v0 h2 hs2
  refine RL.cons ?_ ih e
  cases a<;>simp only [AV.sim] at hs1<;>first
   |(subst hs1;exact h1)
   |(obtain ⟨t,rfl⟩:=hs1
     cases h1 with
     |scal _ _ _ _ _ hsc h3=>
      simp only [scl,AV.asView] at hsc
      subst hsc
      exact .view t [] none 0 0 [] (fun _=>0) _ _ _ ⟨rfl,Nat.le_refl _⟩ (.nil _ fun _=>rfl) (fun _=>rfl) (fun hp=>by omega) h3)
   |exact hs1.elim
 |[],_::_,_,_,_,hs=>hs.elim
 |_::_,[],_,_,_,hs=>hs.elim
theorem RL.sim_v [aq_] {cs cs':List AV} {vs φ} (h:RL E w F cs vs φ) (hs:sims .v cs cs') (hφ:∀ b,φ b≠0→¬ F' b) (hv:∀ b,b<w.heap.size→¬ F b→¬ F' b):RL E w F' cs' vs (fun _=>0) :=
 (h.seen hφ hv).sim_v0 hs
end Go.Pi
end
section
namespace Go.Pi
def AllF (P:AV→Value→Prop):List AV→List Value→Prop
 |[],[]=>True
 |a::l,v::r=>P a v∧AllF P l r
 |_,_=>False
theorem AllF.mono {P Q:AV→Value→Prop}:∀ {l r},AllF P l r→(∀ a v,a ∈ l→P a v→Q a v)→AllF Q l r
 |[],[],_,_=>trivial
 |a::l,v::r,⟨h1,h2⟩,h=>⟨h a v (List.mem_cons_self ..) h1,AllF.mono h2 fun a v ha=>h a v (List.mem_cons_of_mem _ ha)⟩
 |[],_::_,h,_=>h.elim
 |_::_,[],h,_=>h.elim
theorem AllF.length {P:AV→Value→Prop}:∀ {l r},AllF P l r→l.length=r.length
 |[],[],_=>rfl
 |a::l,v::r,⟨_,h2⟩=>by simp [AllF.length h2]
 |[],_::_,h=>h.elim
 |_::_,[],h=>h.elim
structure av_ where
 sv:Nat→Value
 vals:Nat→List Value
 φ:Nat→Nat→Nat
 g:Nat→Nat
def Fof (x:X) (G:av_) (b:Nat):Prop:=∃ r blk,x.h r=some blk∧G.φ r b≠0
def AV.refsT:AV→List Nat
 |.tu vs=>vs.flatMap AV.refsD
 |a=>a.refsD
inductive Rows (x:X) (r:Nat):M→(t:TC)→Nat→List (El t)→Prop
 |arr {m t st xs}:x.h r=some (.arr m t st xs)→Rows x r m t st xs
 |hol {m t st i xs}:x.h r=some (.ext (some ⟨m,t,st,i,xs⟩))→Rows x r m t st xs
theorem Rows.known {x:X} {r:Nat} {m0 t0 st0 xs0} (h:x.h r=some (.arr m0 t0 st0 xs0)) {m t st xs}:Rows x r m t st xs→x.h r=some (.arr m t st xs)
 |.arr e=>e
 |.hol e=>by rw [h] at e;cases e
inductive Same:Blk→Blk→Prop
 |box {cs cs'}:cs.length=cs'.length→Same (.box cs) (.box cs')
 |ext (q):Same (.ext q) (.ext q)
 |arr {m m' t st st' xs xs'}:xs.length=xs'.length→st≤st'→(st=st'→xs=xs')→Same (.arr m t st xs) (.arr m' t st' xs')
 |opn {m t st st' i xs xs'} {m'}:xs.length=xs'.length→st<st'→Same (.arr m t st xs) (.ext (some ⟨m',t,st',i,xs'⟩))
 |hol {m t st st' i i' xs xs'} {m'}:xs.length=xs'.length→st<st'→Same (.ext (some ⟨m,t,st,i,xs⟩)) (.ext (some ⟨m',t,st',i',xs'⟩))
 |fill {m t st st' i xs xs'} {m'}:xs.length=xs'.length→st<st'→Same (.ext (some ⟨m,t,st,i,xs⟩)) (.arr m' t st' xs')
variable [ao_]
open ao_
def RF (E:Env) (w:World) (x:X) (G:av_):AV→Value→Prop
 |.rt r,v=>v.oneCell'=true∧∀ m t st xs,Rows x r m t st xs→v=G.sv r
 |.sr r lo hi,v=>v.oneCell'=true∧∀ m t st xs,Rows x r m t st xs→∃ a n c a' c',G.sv r = .slice a n c∧lo≤hi∧hi≤xs.length∧hi - lo≤c'∧v = .slice a' (hi - lo) c' ∧
   (lo<hi→∃ g,a=some ⟨g,0,none⟩∧a'=some ⟨g,lo*t.width,none⟩)
 |.ns r st i off t ys,v=>v.oneCell'=true∧(∀ m t' st' xs,x.h r=some (.arr m t' st' xs)→st≤st'∧(st=st'→i<xs.length∧(enc .d t' (xs.getD i (El.dflt t')))[off]?=some (.sl .d t ys)∧(G.vals r)[i*t'.width+off]?=some v)) ∧
   ∀ q,x.h r=some (.ext (some q))→st<q.st
 |.pb r off,v=>v.oneCell'=true∧∀ cs,x.h r=some (.box cs)→v = .pointer (some ⟨G.g r,off,none⟩)
 |.pe r i off,v=>v.oneCell'=true∧∀ m t st xs,Rows x r m t st xs→i<xs.length∧∃ g n c,G.sv r = .slice (some ⟨g,0,none⟩) n c∧v = .pointer (some ⟨g,i*t.width+off,none⟩)
 |a,v=>RL E w (Fof x G) [a] [v] (fun _=>0)
def RF1 (E:Env) (w:World) (x:X) (G:av_) (a:AV) (v:Value):Prop :=
 RF E w x G a v∨∃ cs us,a = .ag cs∧v = .agg (List.toArray us)∧AllF (RF E w x G) cs us
inductive RT (E:Env) (w:World) (x:X) (G:av_):AV→Value→Prop
 |flat (a v):RF1 E w x G a v→RT E w x G a v
 |tu (cs vs):AllF (RF1 E w x G) cs vs→RT E w x G (.tu cs) (.tuple (List.toArray vs))
 |clo (f cs vs):AllF (RF E w x G) cs vs→RT E w x G (.clo f cs) (.func (.func f) #[] (List.toArray vs))
def Used (x:X) (l:List Nat):Prop:=∀ r,r ∈ l→x.u r=true
def gv_ (E:Env) (x:X) (w:World) (G:av_) (r:Nat):Blk→Prop
 |.box cs=>(∃ cur T,w.heap[G.g r]?=some (.cells (List.toArray cur) T (0,0))∧AllF (RF E w x G) cs cur)∧(∀ b,G.φ r b=if G.g r=b then 1 else 0)∧Used x (cs.flatMap AV.refs)
 |.ext none=>True
 |.ext (some ⟨m,t,st,i,xs⟩)=>m = .d∧i<xs.length∧w.ownsRow 0 (E.eid t) t.width (G.sv r) xs.length (G.vals r)∧∃ ψ₁ ψ₂,RL E w (Fof x G) (aV_ .d t (xs.take i)) ((G.vals r).take (i*t.width)) ψ₁ ∧
   RL E w (Fof x G) (aV_ .d t (xs.drop (i+1))) ((G.vals r).drop ((i+1)*t.width)) ψ₂∧∀ b,G.φ r b=bP_ (G.sv r) b+(ψ₁ b+ψ₂ b)
 |.arr m t st xs=>m ≠ .v∧w.ownsRow 0 (E.eid t) t.width (G.sv r) xs.length (G.vals r)∧∃ ψ,RL E w (Fof x G) (aV_ m.sub t xs) (G.vals r) ψ∧∀ b,G.φ r b=bP_ (G.sv r) b+ψ b
structure Mem (E:Env) (x:X) (w:World) (G:av_):Prop where
 root:∀ r blk,x.h r=some blk→gv_ E x w G r blk
 used:∀ r blk,x.h r=some blk→x.u r=true
 one:∀ r blk b,x.h r=some blk→G.φ r b≤1
 low:∀ r blk b,x.h r=some blk→G.φ r b≠0→b<w.heap.size
 sep:∀ r r' blk blk' b,x.h r=some blk→x.h r'=some blk'→G.φ r b≠0→G.φ r' b≠0→r=r'
 glob:Glob E w (Fof x G)
structure Evo (x:X) (w:World) (G:av_) (x':X) (w':World) (G':av_):Prop where
 os:w'.os=w.os
 tape:w'.tape=w.tape
 output:w'.output=w.output
 size:w.heap.size≤w'.heap.size
 heap:∀ b,b<w.heap.size→¬ Fof x G b→w'.heap[b]?=w.heap[b]?
 fresh:∀ b,b<w.heap.size→Fof x' G' b→Fof x G b
 used:∀ r,x.u r=true→x'.u r=true
 same:∀ r blk',x.u r=true→x'.h r=some blk'→∃ blk,x.h r=some blk∧Same blk blk'∧G'.sv r=G.sv r∧G'.g r=G.g r ∧
  ∀ m t st xs m' t' xs',blk = .arr m t st xs→blk' = .arr m' t' st xs'→G'.vals r=G.vals r
 ext:∀ r b,x.u r=true→x'.h r=some (.ext none)→G'.φ r b=G.φ r b∧(G.φ r b≠0→b<w.heap.size→w'.heap[b]?=w.heap[b]?)
omit [ao_] in
theorem Same.refl:∀ b,Same b b
 |.box _=>.box rfl
 |.ext q=>.ext q
 |.arr .. => .arr rfl (Nat.le_refl _) fun _=>rfl
omit [ao_] in
theorem Same.trans {a b c:Blk} (h:Same a b) (k:Same b c):Same a c:=by
 cases h with
 |box e=>cases k with
  |box e'=>exact .box (e.trans e')
 |ext q=>exact k
 |arr e l f=>cases k with
  |arr e' l' f'=>exact .arr (e.trans e') (Nat.le_trans l l') fun h=>(f (by omega)).trans (f' (by omega))
  |opn e' l'=>exact .opn (e.trans e') (by omega)
 |opn e l=>cases k with
  |ext=>exact .opn e l
  |hol e' l'=>exact .opn (e.trans e') (by omega)
  |fill e' l'=>exact .arr (e.trans e') (by omega) fun h=>by omega
 |hol e l=>cases k with
  |ext=>exact .hol e l
  |hol e' l'=>exact .hol (e.trans e') (by omega)
  |fill e' l'=>exact .fill (e.trans e') (by omega)
 |fill e l=>cases k with
  |arr e' l' f'=>exact .fill (e.trans e') (by omega)
  |opn e' l'=>exact .hol (e.trans e') (by omega)
omit [ao_] in
theorem Same.rows {x:X} {r:Nat} {b b':Blk} (h:Same b b') (hb:x.h r=some b) {m' t st' xs'} (hb':b' = .arr m' t st' xs'∨∃ i,b' = .ext (some ⟨m',t,st',i,xs'⟩)):∃ m st xs,Rows x r m t st xs∧xs.length=xs'.length:=by
 cases h with
 |box=>rcases hb' with e|⟨_,e⟩<;>cases e
 |ext q=>
  rcases hb' with e|⟨i,e⟩
  · cases e
  · cases e;exact ⟨_,_,_,.hol hb,rfl⟩
 |arr e l f=>
  rcases hb' with e' | ⟨_,e'⟩
  · cases e';exact ⟨_,_,_,.arr hb,e⟩
  · cases e'
 |opn e l=>
  rcases hb' with e' | ⟨_,e'⟩
  · cases e'
  · cases e';exact ⟨_,_,_,.arr hb,e⟩
 |hol e l=>
  rcases hb' with e' | ⟨_,e'⟩
  · cases e'
  · cases e';exact ⟨_,_,_,.hol hb,e⟩
 |fill e l=>
  rcases hb' with e' | ⟨_,e'⟩
  · cases e';exact ⟨_,_,_,.hol hb,e⟩
  · cases e'
omit [ao_] in
theorem Evo.refl (x:X) (w:World) (G:av_):Evo x w G x w G :=
 ⟨rfl,rfl,rfl,Nat.le_refl _,fun _ _ _=>rfl,fun _ _ h=>h,fun _ h=>h,fun r blk' _ h=>⟨blk',h,Same.refl _,rfl,rfl,fun _ _ _ _ _ _ _ _ _=>rfl⟩,fun _ _ _ _=>⟨rfl,fun _ _=>rfl⟩⟩
omit [ao_] in
theorem Evo.trans {x w G x1 w1 G1 x2 w2 G2} (h:Evo x w G x1 w1 G1) (k:Evo x1 w1 G1 x2 w2 G2):Evo x w G x2 w2 G2:=by
 refine ⟨k.os.trans h.os,k.tape.trans h.tape,k.output.trans h.output,Nat.le_trans h.size k.size,fun b hb hF => ?_,fun b hb hF => ?_,fun r hr=>k.used r (h.used r hr),fun r blk' hu hr => ?_,fun r b hu hr => ?_⟩
 · rw [k.heap b (Nat.lt_of_lt_of_le hb h.size) (fun hF1=>hF (h.fresh b hb hF1)),h.heap b hb hF]
 · exact h.fresh b hb (k.fresh b (Nat.lt_of_lt_of_le hb h.size) hF)
 · obtain ⟨b1,h1,s1,e1,e2,e3⟩:=k.same r blk' (h.used r hu) hr
   obtain ⟨b0,h0,s0,f1,f2,f3⟩:=h.same r b1 hu h1
   refine ⟨b0,h0,s0.trans s1,e1.trans f1,e2.trans f2,fun m t st xs m' t' xs' hb hb' => ?_⟩
   subst hb hb'
   cases s0 with
   | @arr _ m1 _ _ st1 _ xs1 q1 l1 i1=>cases s1 with
     |arr q2 l2 i2=>
      obtain rfl:st1=st:=by omega
      rw [e3 _ _ _ _ _ _ _ rfl rfl,f3 _ _ _ _ _ _ _ rfl rfl]
   |opn q1 l1=>cases s1 with
    |fill q2 l2=>exfalso;omega
 · obtain ⟨b1,h1,s1,_⟩:=k.same r _ (h.used r hu) hr
   have hb1:b1 = .ext none:=by cases s1;rfl
   subst hb1
   obtain ⟨e1,e2⟩:=k.ext r b (h.used r hu) hr
   obtain ⟨f1,f2⟩:=h.ext r b hu h1
   refine ⟨e1.trans f1,fun hb hlt => ?_⟩
   rw [e2 (by rw [f1];exact hb) (Nat.lt_of_lt_of_le hlt h.size),f2 hb hlt]
section
variable {E:Env} {x x':X} {w w':World} {G G':av_}
theorem RL.evolve (ev:Evo x w G x' w' G') {l vs φ} (h:RL E w (Fof x G) l vs φ) (hφ:∀ b,φ b≠0→w'.heap[b]?=w.heap[b]?∧Fof x' G' b):RL E w' (Fof x' G') l vs φ :=
 h.frame ev.size hφ fun b hb hF=>⟨ev.heap b hb hF,fun hF'=>hF (ev.fresh b hb hF')⟩
omit [ao_] in
theorem Evo.rows (ev:Evo x w G x' w' G') {r:Nat} (hu:x.u r=true) {m t st xs} (hr:Rows x' r m t st xs):∃ m0 st0 xs0,Rows x r m0 t st0 xs0∧xs0.length=xs.length∧G'.sv r=G.sv r:=by
 cases hr with
 |arr hr=>
  obtain ⟨blk,h0,s,e1,_⟩:=ev.same r _ hu hr
  obtain ⟨a,b,c,h1,h2⟩:=s.rows h0 (.inl rfl)
  exact ⟨a,b,c,h1,h2,e1⟩
 |hol hr=>
  obtain ⟨blk,h0,s,e1,_⟩:=ev.same r _ hu hr
  obtain ⟨a,b,c,h1,h2⟩:=s.rows h0 (.inr ⟨_,rfl⟩)
  exact ⟨a,b,c,h1,h2,e1⟩
theorem RF.evolve (ev:Evo x w G x' w' G') {a v} (h:RF E w x G a v) (hu:Used x a.refs):RF E w' x' G' a v:=by
 have key:∀ r blk',r ∈ a.refs→x'.h r=some blk'→_:=fun r blk' hr=>ev.same r blk' (hu r hr)
 cases a<;>simp only [RF] at h ⊢ <;> try exact h.evolve ev fun b hb=>absurd rfl hb
 case rt r=>
  obtain ⟨hone,h⟩:=h
  refine ⟨hone,?_⟩
  intro m t st xs hr
  obtain ⟨_,_,_,h0,_,e1⟩:=ev.rows (hu r (by simp [AV.refs])) hr
  rw [h _ _ _ _ h0,e1]
 case sr r lo hi=>
  obtain ⟨hone,h⟩:=h
  refine ⟨hone,?_⟩
  intro m t st xs hr
  obtain ⟨_,_,_,h0,s2,e1⟩:=ev.rows (hu r (by simp [AV.refs])) hr
  rw [e1,←s2]
  exact h _ _ _ _ h0
 case ns r st i off t ys=>
  obtain ⟨hone,h,hh⟩:=h
  refine ⟨hone,?_,?_⟩
  · intro m t' st' xs hr
    obtain ⟨blk,h0,s,e1,e2,e3⟩:=key r _ (by simp [AV.refs]) hr
    cases s with
    |fill s2 s3=>
     have:=hh _ h0
     exact ⟨by simp only at this;omega,fun e=>by simp only at this;omega⟩
    | @arr m0 _ _ st0 _ xs0 _ s2 s3 s4=>
      obtain ⟨h1,h2⟩:=h _ _ _ _ h0
      refine ⟨Nat.le_trans h1 s3,fun e => ?_⟩
      have e0:st=st0:=by omega
      have e4:st0=st':=by omega
      obtain rfl:=s4 e4
      obtain ⟨k1,k2,k3⟩:=h2 e0
      subst e4
      exact ⟨k1,k2,by rw [e3 _ _ _ _ _ _ _ rfl rfl];exact k3⟩
  · intro q hr
    obtain ⟨blk,h0,s,e1,e2,e3⟩:=key r _ (by simp [AV.refs]) hr
    cases s with
    |ext=>exact hh _ h0
    |opn s2 s3=>have:=(h _ _ _ _ h0).1;simp only;omega
    |hol s2 s3=>have:=hh _ h0;simp only at this ⊢;omega
 case pb r off=>
  obtain ⟨hone,h⟩:=h
  refine ⟨hone,?_⟩
  intro cs hr
  obtain ⟨blk,h0,s,e1,e2,e3⟩:=key r _ (by simp [AV.refs]) hr
  cases s with
  |box=>rw [h _ h0,e2]
 case pe r i off=>
  obtain ⟨hone,h⟩:=h
  refine ⟨hone,?_⟩
  intro m t st xs hr
  obtain ⟨_,_,_,h0,s2,e1⟩:=ev.rows (hu r (by simp [AV.refs])) hr
  rw [e1,←s2]
  exact h _ _ _ _ h0
omit [ao_] in
theorem Used.evolve (ev:Evo x w G x' w' G') {l} (h:Used x l):Used x' l:=fun r hr=>ev.used r (h r hr)
omit [ao_] in
theorem Used.mem {l:List AV} (h:Used x (l.flatMap AV.refs)) {a} (ha:a ∈ l):Used x a.refs:=fun r hr=>h r (List.mem_flatMap.2 ⟨a,ha,hr⟩)
theorem AllF.evolve (ev:Evo x w G x' w' G') {l vs} (h:AllF (RF E w x G) l vs) (hu:Used x (l.flatMap AV.refs)):AllF (RF E w' x' G') l vs :=
 h.mono fun a v ha ha'=>ha'.evolve ev (hu.mem ha)
omit [ao_] in
theorem AV.refs_sub_D (a:AV):∀ r,r ∈ a.refs→r ∈ a.refsD:=by
 intro r hr
 cases a<;>first|exact hr|simp [AV.refs] at hr
theorem RF1.evolve (ev:Evo x w G x' w' G') {a v} (h:RF1 E w x G a v) (hu:Used x a.refsD):RF1 E w' x' G' a v:=by
 rcases h with h|⟨cs,us,rfl,rfl,h⟩
 · exact .inl (h.evolve ev fun r hr=>hu r (a.refs_sub_D r hr))
 · exact .inr ⟨cs,us,rfl,rfl,h.evolve ev hu⟩
theorem RT.evolve (ev:Evo x w G x' w' G') {a v} (h:RT E w x G a v) (hu:Used x a.refsT):RT E w' x' G' a v:=by
 cases h with
 |flat _ _ h=>
  refine .flat _ _ ?_
  cases a with
  |tu vs=>
   rcases h with h|⟨cs,us,e,_⟩
   · exact .inl (h.evolve ev (by intro r hr;simp [AV.refs] at hr))
   · cases e
  |_=>exact h.evolve ev hu
 |tu cs vs h=>exact .tu _ _ (h.mono fun a v ha h'=>h'.evolve ev fun r hr=>hu r (List.mem_flatMap.2 ⟨a,ha,hr⟩))
 |clo f cs vs h=>exact .clo _ _ _ (h.evolve ev hu)
theorem gv_.evolve (ev:Evo x w G x' w' G') {r blk} (h:gv_ E x w G r blk) (h':x'.h r=some blk) (hsv:G'.sv r=G.sv r) (hvals:G'.vals r=G.vals r) (hg:G'.g r=G.g r) (hφ:∀ b,G'.φ r b=G.φ r b)
  (hC:∀ b,G.φ r b≠0→w'.heap[b]?=w.heap[b]?):gv_ E x' w' G' r blk:=by
 cases blk with
 |ext q=>cases q with
  |none=>trivial
  |some q=>
   obtain ⟨m,t,st,i,xs⟩:=q
   obtain ⟨h0,h1,h2,ψ₁,ψ₂,h3,h4,h5⟩:=h
   refine ⟨h0,h1,?_,ψ₁,ψ₂,?_,?_,fun b=>by rw [hφ,hsv,h5]⟩
   · rw [hsv,hvals]
     exact fr_ h2 fun b hb=>hC b (by rw [h5];omega)
   · rw [hvals]
     exact h3.evolve ev fun b hb=>⟨hC b (by rw [h5];omega),r,_,h',by rw [hφ,h5];omega⟩
   · rw [hvals]
     exact h4.evolve ev fun b hb=>⟨hC b (by rw [h5];omega),r,_,h',by rw [hφ,h5];omega⟩
 |box cs=>
  obtain ⟨⟨cur,T,h1,h2⟩,h3,h4⟩:=h
  refine ⟨⟨cur,T,?_,h2.evolve ev h4⟩,fun b=>by rw [hφ,hg,h3],h4.evolve ev⟩
  rw [hg,hC (G.g r) (by rw [h3,if_pos rfl];omega),h1]
 |arr m t st xs=>
  obtain ⟨h1,h2,ψ,h3,h4⟩:=h
  refine ⟨h1,?_,ψ,?_,fun b=>by rw [hφ,hsv,h4]⟩
  · rw [hsv,hvals]
    exact fr_ h2 fun b hb=>hC b (by rw [h4];omega)
  · rw [hvals]
    exact h3.evolve ev fun b hb=>⟨hC b (by rw [h4];omega),r,_,h',by rw [hφ,h4];omega⟩
omit [ao_] in
theorem Glob.lt {F:Nat→Prop} (h:Glob E w F) {p} (hp:p ∈ E.globs):p.1<w.heap.size:=by
 obtain ⟨⟨cs,T,fr,h1,_⟩,_⟩:=h p hp
 exact (Array.getElem?_eq_some_iff.1 h1).1
omit [ao_] in
theorem Glob.sub {F F':Nat→Prop} (h:Glob E w F) (hs:∀ b,F' b→F b):Glob E w F':=fun p hp=>⟨(h p hp).1,fun hb=>(h p hp).2 (hs _ hb)⟩
omit [ao_] in
theorem Glob.evolve (h:Glob E w (Fof x G)) (ev:Evo x w G x' w' G'):Glob E w' (Fof x' G'):=fun p hp=>by
 have hlt:=h.lt hp
 obtain ⟨⟨cs,T,fr,h1,hc⟩,h2⟩:=h p hp
 exact ⟨⟨cs,T,fr,by rw [ev.heap p.1 hlt h2];exact h1,hc⟩,fun hF=>h2 (ev.fresh p.1 hlt hF)⟩
theorem Mem.build (h:Mem E x w G) (ev:Evo x w G x' w' G') (C:Nat→Prop) (hC:∀ b,b<w.heap.size→¬ C b→w'.heap[b]?=w.heap[b]?)
  (roots:∀ r blk,x'.h r=some blk→(x.h r=some blk∧G'.sv r=G.sv r∧G'.vals r=G.vals r∧G'.g r=G.g r∧(∀ b,G'.φ r b=G.φ r b)∧∀ b,G.φ r b≠0→¬ C b) ∨
    (gv_ E x' w' G' r blk∧x'.u r=true∧∀ b,G'.φ r b≤1∧(G'.φ r b≠0→b<w'.heap.size)))
  (sep:∀ r r' blk blk' b,x'.h r=some blk→x'.h r'=some blk'→G'.φ r b≠0→G'.φ r' b≠0→r=r'):Mem E x' w' G':=by
 refine ⟨fun r blk hr => ?_,fun r blk hr => ?_,fun r blk b hr => ?_,fun r blk b hr hb => ?_,sep,h.glob.evolve ev⟩
 · rcases roots r blk hr with ⟨h0,e1,e2,e3,e4,e5⟩|⟨h1,_⟩
   · exact (h.root r blk h0).evolve ev hr e1 e2 e3 e4 fun b hb=>hC b (h.low r blk b h0 hb) (e5 b hb)
   · exact h1
 · rcases roots r blk hr with ⟨h0,_⟩|⟨_,h2,_⟩
   · exact ev.used r (h.used r blk h0)
   · exact h2
 · rcases roots r blk hr with ⟨h0,e1,e2,e3,e4,e5⟩|⟨_,_,h3⟩
   · rw [e4];exact h.one r blk b h0
   · exact (h3 b).1
 · rcases roots r blk hr with ⟨h0,e1,e2,e3,e4,e5⟩|⟨_,_,h3⟩
   · rw [e4] at hb;exact Nat.lt_of_lt_of_le (h.low r blk b h0 hb) ev.size
   · exact (h3 b).2 hb
end
end Go.Pi
end
section
namespace Go.Pi
variable [ao_]
open ao_
variable {E:Env} {x:X} {w:World} {G:av_}
theorem RT.i {k n v} (h:RT E w x G (.i k n) v):v = .int k n:=by
 cases h with
 |flat _ _ h=>rcases h with h|⟨_,_,e,_⟩
              · cases h with
                |scal _ _ _ _ _ hs _=>exact hs
              · cases e
theorem RT.b {q v} (h:RT E w x G (.b q) v):v = .bool q:=by
 cases h with
 |flat _ _ h=>rcases h with h|⟨_,_,e,_⟩
              · cases h with
                |scal _ _ _ _ _ hs _=>exact hs
              · cases e
theorem RT.s {l v} (h:RT E w x G (.s l) v):v = .string ⟨l.toArray⟩:=by
 cases h with
 |flat _ _ h=>rcases h with h|⟨_,_,e,_⟩
              · cases h with
                |scal _ _ _ _ _ hs _=>exact hs
              · cases e
theorem RT.nils {v} (h:RT E w x G .nils v):v = .slice none 0 0:=by
 cases h with
 |flat _ _ h=>rcases h with h|⟨_,_,e,_⟩
              · cases h with
                |scal _ _ _ _ _ hs _=>exact hs
              · cases e
theorem RT.er {q v} (h:RT E w x G (.er q) v):(q=true→v = .nilIface)∧(q=false→∃ t u,v = .iface t u):=by
 cases h with
 |flat _ _ h=>rcases h with h|⟨_,_,e,_⟩
              · cases h with
                |scal _ _ _ _ _ hs _=>exact hs
              · cases e
theorem RT.nili {v} (h:RT E w x G .nili v):v = .nilIface:=by
 cases h with
 |flat _ _ h=>rcases h with h|⟨_,_,e,_⟩
              · cases h with
                |scal _ _ _ _ _ hs _=>exact hs
              · cases e
theorem RT.scl {a v} (h:scl a v):RT E w x G a v:=by
 refine .flat _ _ (.inl ?_)
 have:RL E w (Fof x G) [a] [v] (fun _=>0):=.scal _ _ _ _ _ h (.nil _ fun _=>rfl)
 cases a<;>first|exact this|exact h.elim
theorem RT.rf {a v} (h:RT E w x G a v) (h1:∀ cs,a ≠ .ag cs) (h2:∀ cs,a ≠ .tu cs) (h3:∀ f cs,a ≠ .clo f cs):RF E w x G a v:=by
 cases h with
 |flat _ _ h=>rcases h with h|⟨cs,_,e,_⟩
              · exact h
              · exact absurd e (h1 cs)
 |tu cs=>exact absurd rfl (h2 cs)
 |clo f cs=>exact absurd rfl (h3 f cs)
theorem RL.rf {a v φ} (h:RL E w (Fof x G) [a] [v] φ) (h0:∀ b,φ b=0):RF E w x G a v:=by
 have h':=h.congr (ψ:=fun _=>0) h0
 cases a<;>first|exact h' | (cases h' with|scal _ _ _ _ _ hs _=>exact hs.elim)
theorem RL.allRF:∀ {l vs φ},RL E w (Fof x G) l vs φ→(∀ b,φ b=0)→AllF (RF E w x G) l vs
 |[],vs,φ,h,_=>by obtain ⟨rfl,_⟩:=RL.nil_inv h;trivial
 |a::l,vs,φ,h,h0=>by
  obtain ⟨v,vs',φ₁,φ₂,rfl,h1,h2,e⟩:=RL.uncons h
  exact ⟨h1.rf fun b=>by have:=e b;rw [h0 b] at this;omega,RL.allRF h2 fun b=>by have:=e b;rw [h0 b] at this;omega⟩
theorem RT.ag {cs v} (h:RT E w x G (.ag cs) v):∃ us,v = .agg (List.toArray us)∧AllF (RF E w x G) cs us:=by
 cases h with
 |flat _ _ h=>
  rcases h with h|⟨cs',us,e,rfl,h⟩
  · cases h with
    |scal _ _ _ _ _ hs _=>exact hs.elim
    |ag cs us φ₁ _ _ φ₂ _ h1 h2 he=>exact ⟨us,rfl,h1.allRF fun b=>by have h5:0=φ₁ b+φ₂ b:=he b;omega⟩
  · cases e;exact ⟨us,rfl,h⟩
theorem RT.tu' {cs v} (h:RT E w x G (.tu cs) v):∃ us,v = .tuple (List.toArray us)∧AllF (RF1 E w x G) cs us:=by
 cases h with
 |flat _ _ h=>
  rcases h with h|⟨cs',us,e,rfl,h⟩
  · cases h with
    |scal _ _ _ _ _ hs _=>exact hs.elim
    |tu cs us φ₁ _ _ φ₂ _ h1 h2 he=>exact ⟨us,rfl,(h1.allRF fun b=>by have h5:0=φ₁ b+φ₂ b:=he b;omega).mono fun a v _ h=>.inl h⟩
  · cases e
 |tu _ us h=>exact ⟨us,rfl,h⟩
theorem RT.clo' {f cs v} (h:RT E w x G (.clo f cs) v):∃ us,v = .func (.func f) #[] (List.toArray us)∧AllF (RF E w x G) cs us:=by
 cases h with
 |flat _ _ h=>
  rcases h with h|⟨cs',us,e,rfl,h⟩
  · cases h with
    |scal _ _ _ _ _ hs _=>cases cs with
     |nil=>exact ⟨[],hs,trivial⟩
     |cons=>exact hs.elim
    |clo _ _ us z _ _ _ h1 hz _=>exact ⟨us,rfl,h1.allRF hz⟩
  · cases e
 |clo _ _ us h=>exact ⟨us,rfl,h⟩
theorem RF.oneCell {a v} (h:RF E w x G a v) (h1:a.one=true):v.oneCell'=true:=by
 cases a with
 |rt=>exact h.1
 |sr=>exact h.1
 |ns=>exact h.1
 |pb=>exact h.1
 |pe=>exact h.1
 |ag=>simp [AV.one] at h1
 |tu=>simp [AV.one] at h1
 |bx=>simp [AV.one] at h1
 |clo=>simp [AV.one] at h1
 |u=>simp [AV.one] at h1
 |sl m t xs=>
  cases h with
  |scal _ _ _ _ _ hs _=>exact hs.elim
  |view=>rfl
  |own m t xs v vals φ₁ _ _ φ₂ _ hm how=>rcases how.2 with ⟨rfl,_⟩|⟨_,_,_,rfl,_⟩<;>rfl
 |pc=>
  cases h with
  |scal _ _ _ _ _ hs _=>exact hs.elim
  |pc=>rfl
 |er q=>
  cases h with
  |scal _ _ _ _ _ hs _=>
   cases q with
   |true=>rw [hs.1 rfl];rfl
   |false=>obtain ⟨_,_,rfl⟩:=hs.2 rfl;rfl
 |_=>
  cases h with
  |scal _ _ _ _ _ hs _=>subst hs;rfl
theorem AllF.one:∀ {l us},AllF (RF E w x G) l us→l.all AV.one=true→∀ v ∈ us,v.oneCell'=true
 |[],[],_,_,v,hv=>by cases hv
 |a::l,u::us,⟨h1,h2⟩,ho,v,hv=>by
  simp only [List.all_cons,Bool.and_eq_true] at ho
  rcases List.mem_cons.1 hv with rfl|hv
  · exact h1.oneCell ho.1
  · exact AllF.one h2 ho.2 v hv
 |[],_::_,h,_,_,_=>h.elim
 |_::_,[],h,_,_,_=>h.elim
theorem RT.cells {a v} (h:RT E w x G a v) (h1:a.cells.all AV.one=true):∃ us,v.cells=List.toArray us∧AllF (RF E w x G) a.cells us:=by
 by_cases h0:∃ cs,a = .ag cs
 · obtain ⟨cs,rfl⟩:=h0
   obtain ⟨us,rfl,h'⟩:=RT.ag h
   exact ⟨us,rfl,h'⟩
 · have hc:a.cells=[a]:=by cases a<;>first|rfl|exact absurd ⟨_,rfl⟩ h0
   rw [hc] at h1 ⊢
   have h1':a.one=true:=by simpa using h1
   have h4:=h.rf (fun cs e=>h0 ⟨cs,e⟩) (fun cs e=>by subst e;simp [AV.one] at h1') (fun f cs e=>by subst e;simp [AV.one] at h1')
   refine ⟨[v],?_,h4,trivial⟩
   have:=h4.oneCell h1'
   cases v<;>first|rfl|simp [Value.oneCell'] at this
end Go.Pi
end
section
namespace Go.Pi
variable [ao_]
open ao_
variable {ω:Type}
def Goes (E:Env) (κ:X→AV→Option ω) (r:ω) (x:X) (w:World) (G:av_) (V:Value) (w':World):Prop :=
 ∃ x' G' v,κ x' v=some r∧Evo x w G x' w' G'∧Mem E x' w' G'∧RT E w' x' G' v V∧Used x' v.refsT
def bm_ (E:Env) (o:Oper) (α:Operand→Value) (κ:X→AV→Option ω) (r:ω) (x:X) (w:World) (G:av_):Prop :=
 match (execOp α o).run E.P w with
 |.ok (.value V) w'=>Goes E κ r x w G V w'
 |.ok .skip w'=>Goes E κ r x w G undef w'
 |.ok (.enter f args) w'=>Calls E.P f args w' fun e w''=>∃ V,e = .returned V∧Goes E κ r x w G V w''
 |_=>False
structure TDok (E:Env) (T:TypeId) (td:TD):Prop where
 size:(E.P.info? T).map (·.size)=some td.size
 pos:0<td.size
 agg:td.agg=true→∃ d,E.P.underlying T=some d∧d.isRow=true
 flat:td.agg=false→td.size=1∧∃ d,E.P.underlying T=some d∧d.isRow=false
 zero:td.zero.length=td.size∧td.zero.all AV.one=true∧∃ i z zs,E.P.info? T=some i∧i.zero=some z∧z.cells=List.toArray zs∧AllF scl td.zero zs
 fields:td.fields≠[]→∃ fs,E.P.underlying T=some (.struct fs)∧fs.size=td.fields.length∧∀ (f off n:Nat),td.fields[f]?=some (off,n)→∃ fd:Field,fs[f]?=some fd∧fd.offset=off∧(E.P.info? fd.type).map (·.size)=some n∧0<n
 struct:td.agg=true→td.fields≠[]
 elem:∀ t,td.elem=some t→E.P.underlying T=some (.slice (E.eid t))
 kind:∀ k,td.kind=some k→E.P.underlying T=some (.int k)
 str:td.isStr=true→E.P.underlying T=some .string
 bool:td.isBool=true→E.P.underlying T=some .bool
 cmp:td.cmp≠[]→∃ fs,E.P.underlying T=some (.struct fs)∧E.P.stoodInHeld T=false∧E.P.eqGuardType E.P.depth T=false∧fs.size=td.cmp.length ∧
  ∀ (k:Nat) (f:Field) (q:CK),fs[k]?=some f→td.cmp[k]?=some q→(f.name == "_")=false∧f.offset=k∧E.P.plainKey f.type=true ∧
    match q with
    |.i=>∃ kk,E.P.underlying f.type=some (.int kk)
    |.b=>E.P.underlying f.type=some .bool
    |.s=>E.P.underlying f.type=some .string
 iface:td.isIf=true→∃ ms,E.P.underlying T=some (.interface ms)
structure TCok (E:Env) (t:TC):Prop where
 info:∃ i z zs zc,E.P.info? (E.eid t)=some i∧i.zero=some z∧i.size=t.width∧i.bytes=t.bytes∧z.cells=List.toArray zs∧AllF scl zc zs∧zc.all AV.one=true∧(∀ m,sims m zc (enc m t (El.dflt t)))
 pos:0<t.bytes
variable {E:Env} {x:X} {w:World} {G:av_} {κ:X→AV→Option ω} {r:ω} {o:Oper} {α:Operand→Value}
theorem Goes.same (hM:Mem E x w G) {v V} (hk:κ x v=some r) (hr:RT E w x G v V) (hu:Used x v.refsT):Goes E κ r x w G V w :=
 ⟨x,G,v,hk,Evo.refl _ _ _,hM,hr,hu⟩
theorem bm_.value {V w'} (h:(execOp α o).run E.P w = .ok (.value V) w') (hg:Goes E κ r x w G V w'):bm_ E o α κ r x w G:=by
 unfold bm_
 rw [h]
 exact hg
omit [ao_] in
theorem bR_:Used x []:=fun r hr=>by cases hr
section
variable (hM:Mem E x w G)
include hM
theorem go_move {a} (ho:o.op = .move a) {v} (hk:κ x v=some r) (hr:RT E w x G v (α a)) (hu:Used x v.refsT):bm_ E o α κ r x w G :=
 bm_.value (by simp [execOp,ho]) (Goes.same hM hk hr hu)
theorem go_assign {a} (ho:o.op = .assign a) {v} (hk:κ x v=some r) (hr:RT E w x G v (α a)) (hu:Used x v.refsT):bm_ E o α κ r x w G :=
 bm_.value (by simp [execOp,ho]) (Goes.same hM hk hr hu)
theorem go_pick {q a b t} (ho:o.op = .pick q a b) (hq:α q = .bool t) {v} (hk:κ x v=some r) (hr:RT E w x G v (if t then α a else α b)) (hu:Used x v.refsT):bm_ E o α κ r x w G :=
 bm_.value (by simp [execOp,ho,hq,asBool]) (Goes.same hM hk hr hu)
theorem go_not {T a t} (ho:o.op = .unOp .not T a) (ha:α a = .bool t) (hk:κ x (.b (!t))=some r):bm_ E o α κ r x w G :=
 bm_.value (V:=.bool (!t)) (by simp [execOp,ho,ha,Op.unary]) (Goes.same hM hk (RT.scl rfl) bR_)
theorem go_neg {T a k n} (ho:o.op = .unOp .neg T a) (ha:α a = .int k n) (hk:κ x (.i k (k.wrap (0 - n)))=some r):bm_ E o α κ r x w G :=
 bm_.value (V:=.int k (k.wrap (0 - n))) (by simp [execOp,ho,ha,Op.unary,Op.intArith]) (Goes.same hM hk (RT.scl rfl) bR_)
end
section
variable (hM:Mem E x w G)
include hM
theorem oa_ {op T T' a b k n k' m} (ho:o.op = .binOp op T a b T') (ha:α a = .int k n) (hb:α b = .int k' m) {isB} (h:e1_ op isB (.i k n) (.i k' m) (κ x)=some r):bm_ E o α κ r x w G:=by
 have hg:∀ t y z,(eqGuard op t y z (.int k n) (.int k' m)).run E.P w = .ok () w:=fun t y z=>by cases op<;>simp [eqGuard]
 cases op<;>simp only [e1_] at h<;>(try (simp at h;done))
 case shr=>
  by_cases hm:m<0
  · simp [hm] at h
  · simp only [hm,decide_false,cond_false] at h
    refine bm_.value (V:=.int k (n.fdiv (2 ^ min m.toNat k.bits))) (w':=w) ?_ (Goes.same hM h (RT.scl rfl) bR_)
    simp [execOp,ho,ha,hb,hg,binOp,Op.shift,hm]
 all_goals
  obtain rfl:k=k':=by
   by_cases q:k=k'
   · exact q
   · simp [q] at h
  simp only [decide_true,cond_true] at h
 case quo=>
  by_cases hm:m=0
  · simp [hm] at h
  · simp only [hm,decide_false,cond_false] at h
    exact bm_.value (V:=.int k (k.wrap (n.tdiv m))) (by simp [execOp,ho,ha,hb,hg,binOp,Op.intDiv,hm]) (Goes.same hM h (RT.scl rfl) bR_)
 case rem=>
  by_cases hm:m=0
  · simp [hm] at h
  · simp only [hm,decide_false,cond_false] at h
    exact bm_.value (V:=.int k (n.tmod m)) (by simp [execOp,ho,ha,hb,hg,binOp,Op.intDiv,hm]) (Goes.same hM h (RT.scl rfl) bR_)
 all_goals
  refine bm_.value (w':=w) (by simp [execOp,ho,ha,hb,hg,binOp,Op.intArith,Op.intBits,Op.intCmp];rfl) (Goes.same hM h (RT.scl ?_) bR_)
  simp [scl]
end
end Go.Pi
end
section
namespace Go.Pi
variable [ao_]
open ao_
variable {ω:Type}
variable {E:Env} {x:X} {w:World} {G:av_} {κ:X→AV→Option ω} {r:ω} {o:Oper} {α:Operand→Value}
def hZ_ (l:Bs):ByteArray:=⟨l.toArray⟩
omit [ao_] in
theorem mI_ (l:Bs):(hZ_ l).toList=l:=by rw [ByteArray.toList_eq];rfl
omit [ao_] in
theorem kS_ (l:Bs):(hZ_ l).size=l.length:=by simp [hZ_,ByteArray.size]
omit [ao_] in
theorem bs_append (a b:Bs):hZ_ a++hZ_ b=hZ_ (a++b):=by
 apply ByteArray.ext
 simp [hZ_,ByteArray.data_append]
omit [ao_] in
theorem bs_extract (l:Bs) (i j:Nat):(hZ_ l).extract i j=hZ_ ((l.take j).drop i):=by
 apply ByteArray.ext
 simp [hZ_,ByteArray.data_extract,List.extract_eq_take_drop,List.drop_take]
omit [ao_] in
theorem jq_ {P:Program} {T:TypeId} (hT:P.underlying T=some .bool) (p q:Bool) (w:World) (d:Nat):(Op.equalIn (d+1) T (.bool p) (.bool q)).run P w = .ok (p == q) w:=by
 simp [Op.equalIn,run_underlying hT]
section
variable (hM:Mem E x w G)
include hM
theorem n9_ {op T T' a b l m} (ho:o.op = .binOp op T a b T') (ha:α a = .string (hZ_ l)) (hb:α b = .string (hZ_ m)) {isB} (h:e1_ op isB (.s l) (.s m) (κ x)=some r):bm_ E o α κ r x w G:=by
 have hg:∀ t y z,(eqGuard op t y z (.string (hZ_ l)) (.string (hZ_ m))).run E.P w = .ok () w:=fun t y z=>by cases op<;>simp [eqGuard]
 have hr:∀ V,(Op.stringOp op (hZ_ l) (hZ_ m)).run E.P w = .ok V w→(execOp α o).run E.P w = .ok (.value V) w:=fun V hV=>by
  simp only [execOp,ho,ha,hb,Sem.run_bind,hg,Result.andThen_ok]
  cases op<;>simp only [binOp,hV,Result.andThen_ok,Sem.run_pure]<;>simp [Op.stringOp] at hV
 cases op<;>simp only [e1_] at h<;>(try (simp at h;done))
 case add=>
  by_cases hk:l.length+m.length≤9223372036854775807
  · simp only [hk,decide_true,cond_true] at h
    refine bm_.value (hr (.string (hZ_ (l++m))) ?_) (Goes.same hM h (RT.scl rfl) bR_)
    have:¬ (((hZ_ l).size+(hZ_ m).size:Nat):Int) > IntKind.i64.max:=by rw [kS_,kS_];simp [IntKind.max,IntKind.signed,IntKind.bits];omega
    simp only [Op.stringOp,this,if_false,bs_append]
    rfl
  · simp [hk] at h
 all_goals
  refine bm_.value (hr _ (by simp only [Op.stringOp,mI_];rfl)) (Goes.same hM h (RT.scl rfl) bR_)
theorem mw_ {op T T' a b p q} (ho:o.op = .binOp op T a b T') (ha:α a = .bool p) (hb:α b = .bool q) {isB} (hT:isB=true→E.P.underlying T=some .bool) (h:e1_ op isB (.b p) (.b q) (κ x)=some r):bm_ E o α κ r x w G:=by
 have hg:∀ t y z,(eqGuard op t y z (.bool p) (.bool q)).run E.P w = .ok () w:=fun t y z=>by cases op<;>simp [eqGuard]
 cases op<;>simp only [e1_] at h<;>(try (simp at h;done))
 all_goals
  cases isB with
  |false=>simp at h
  |true=>
   simp only [cond_true] at h
   have he:(Op.equal T (.bool p) (.bool q)).run E.P w = .ok (p == q) w:=jq_ (hT rfl) p q w 9999
   refine bm_.value (w':=w) (by simp only [execOp,ho,ha,hb,hg,binOp,Sem.run_bind,he,Result.andThen_ok,Sem.run_pure];rfl) (Goes.same hM h (RT.scl ?_) bR_)
   simp [scl]
theorem mv_ {T T' a k n} (ho:o.op = .convert T T' a) (hT:E.P.underlying T'=some (.int k)) {k'} (ha:α a = .int k' n) {u} (hu:E.P.underlying T=some u) (hk:κ x (.i k (k.wrap n))=some r):bm_ E o α κ r x w G:=by
 refine bm_.value (V:=.int k (k.wrap n)) (w':=w) ?_ (Goes.same hM hk (RT.scl rfl) bR_)
 simp [execOp,ho,convert,run_underlying hT,run_underlying hu,ha,Conv.intToInt]
theorem go_index {T a ix l k n} (ho:o.op = .index T a ix) (hT:E.P.underlying T=some .string) (ha:α a = .string (hZ_ l)) (hi:α ix = .int k n)
  (h:inB n l.length (κ x (.i .u8 ((l.getD n.toNat 0).toNat:Int)))=some r):bm_ E o α κ r x w G:=by
 unfold inB at h
 by_cases h0:0≤n
 · by_cases h1:n<(l.length:Int)
   · simp only [h0,h1,decide_true,cond_true] at h
     have h2:n.toNat<l.length:=by omega
     refine bm_.value (V:=.int .u8 ((l.getD n.toNat 0).toNat:Int)) (w':=w) ?_ (Goes.same hM h (RT.scl rfl) bR_)
     have h3:0≤n∧n<((hZ_ l).size:Int):=by rw [kS_];exact ⟨h0,h1⟩
     simp only [execOp,ho,ha,hi,run_index_string (P:=E.P) w T _ k n hT,Sem.run_bind,h3,and_self,dite_true,Result.andThen_ok,Sem.run_pure]
     have:(hZ_ l)[n.toNat]'(by rw [kS_];exact h2)=l.getD n.toNat 0:=by
      simp [hZ_,ByteArray.getElem_eq_getElem_data,List.getD_eq_getElem?_getD,List.getElem?_eq_getElem h2]
     simp [this]
   · simp [h0,h1] at h
 · simp [h0] at h
theorem n8_ {T} {k:Nat} {vs v} (ho:o.op = .extract T k) (ht:RT E w x G (.tu vs) (α T)) (hu:Used x (AV.tu vs).refsT) (hv:vs[k]?=some v) (hn:v.isTu=false) (hk:κ x v=some r):bm_ E o α κ r x w G:=by
 obtain ⟨us,e,hall⟩:=ht.tu'
 have key:∀ {l:List AV} {us:List Value} {k:Nat} {v:AV},AllF (RF1 E w x G) l us→l[k]?=some v→∃ u,us[k]?=some u∧RF1 E w x G v u:=by
  intro l
  induction l with
  |nil=>intro us k v _ h;simp at h
  |cons a l ih=>
   intro us k v h hk
   cases us with
   |nil=>exact h.elim
   |cons u us=>
    cases k with
    |zero=>simp at hk;subst hk;exact ⟨u,rfl,h.1⟩
    |succ k=>simpa using ih h.2 (show l[k]?=some v by simpa using hk)
 obtain ⟨u,hu1,hu2⟩:=key hall hv
 refine bm_.value (V:=u) (w':=w) ?_ (Goes.same hM hk (.flat _ _ hu2) fun q hq => ?_)
 · simp [execOp,ho,e,Instr.extract,hu1]
 · have hm:v ∈ vs:=List.mem_of_getElem? hv
   refine hu q ?_
   have:v.refsT=v.refsD∨∃ l,v = .tu l:=by cases v<;>simp [AV.refsT]
   rcases this with e2|⟨l,rfl⟩
   · exact List.mem_flatMap.2 ⟨v,hm,e2 ▸ hq⟩
   · simp [AV.isTu] at hn
end
end Go.Pi
end
section
namespace Go.Pi
variable [ao_]
open ao_
variable {ω:Type}
variable {E:Env} {x:X} {w:World} {G:av_} {κ:X→AV→Option ω} {r:ω} {o:Oper} {α:Operand→Value}
omit [ao_] in
theorem AllF.get {P:AV→Value→Prop}:∀ {l:List AV} {us:List Value} {k:Nat} {a:AV},AllF P l us→l[k]?=some a→∃ u,us[k]?=some u∧P a u
 |[],_,_,_,_,h=>by simp at h
 |a::l,[],_,_,h,_=>h.elim
 |a::l,u::us,0,_,h,hk=>by simp at hk;subst hk;exact ⟨u,rfl,h.1⟩
 |a::l,u::us,k+1,_,h,hk=>by simpa using AllF.get h.2 (by simpa using hk)
omit [ao_] in
theorem AllF.drop {P:AV→Value→Prop}:∀ {l:List AV} {us:List Value} (k:Nat),AllF P l us→AllF P (l.drop k) (us.drop k)
 |[],[],k,_=>by simp;trivial
 |a::l,u::us,0,h=>h
 |a::l,u::us,k+1,h=>by simpa using AllF.drop k h.2
 |[],_::_,_,h=>h.elim
 |_::_,[],_,h=>h.elim
omit [ao_] in
theorem AllF.take {P:AV→Value→Prop}:∀ {l:List AV} {us:List Value} (k:Nat),AllF P l us→AllF P (l.take k) (us.take k)
 |_,_,0,_=>by simp;trivial
 |[],[],k+1,_=>by simp;trivial
 |a::l,u::us,k+1,h=>⟨h.1,AllF.take k h.2⟩
 |[],_::_,_+1,h=>h.elim
 |_::_,[],_+1,h=>h.elim
omit [ao_] in
theorem AllF.append {P:AV→Value→Prop}:∀ {l l':List AV} {us us':List Value},AllF P l us→AllF P l' us'→AllF P (l++l') (us++us')
 |[],l',[],us',_,h=>h
 |a::l,l',u::us,us',h,h'=>⟨h.1,AllF.append h.2 h'⟩
 |[],_,_::_,_,h,_=>h.elim
 |_::_,_,[],_,h,_=>h.elim
omit [ao_] in
theorem in_ {T:TypeId} {td:TD} (ht:TDok E T td) {b off:Nat} {us:List Value} (hr:w.rangeAt b off us) (hl:us.length=td.size) :
  (loadVar T ⟨b,off,none⟩).run E.P w = .ok (if td.agg then .agg (List.toArray us) else us.headD undef) w:=by
 cases hb:td.agg with
 |true=>
  obtain ⟨d,hd,hrow⟩:=ht.agg hb
  rw [run_loadVar_mid (P:=E.P) w b off T us d hr hd hrow (by rw [ht.size,hl])]
  rfl
 |false=>
  obtain ⟨h1,d,hd,hrow⟩:=ht.flat hb
  obtain ⟨u,rfl⟩:∃ u,us=[u]:=by
   match us,hl.trans h1 with
   |[u],_=>exact ⟨u,rfl⟩
  have hagg:(isAgg T).run E.P w = .ok false w:=by
   unfold isAgg
   rw [Sem.run_bind,run_underlying hd w]
   cases d<;>simp_all
  have hc:=hr 0 u rfl
  simp only [Nat.add_zero] at hc
  simp [loadVar,Sem.run_bind,hagg,hc]
omit [ao_] in
theorem n7_ {T td} (ht:TDok E T td) {a} (ho:o.op = .load T a) {b off:Nat} (ha:α a = .pointer (some ⟨b,off,none⟩)) {us:List Value} (hr:w.rangeAt b off us) (hl:us.length=td.size) :
  (execOp α o).run E.P w = .ok (.value (if td.agg then .agg (List.toArray us) else us.headD undef)) w:=by
 simp only [execOp,ho,ha,Instr.loadAt,Instr.sureAddr,Sem.run_bind,Sem.run_pure,Result.andThen_ok,in_ ht hr hl]
theorem RT.val {T td} (ht:TDok E T td) {cs us} (h:AllF (RF E w x G) cs us) (hl:cs.length=td.size):RT E w x G (td.val cs) (if td.agg then .agg (List.toArray us) else us.headD undef):=by
 unfold TD.val
 cases hb:td.agg with
 |true=>exact .flat _ _ (.inr ⟨cs,us,rfl,rfl,h⟩)
 |false=>
  obtain ⟨h1,_⟩:=ht.flat hb
  match cs,us,hl.trans h1,h with
  |[c],[u],_,h=>exact .flat _ _ (.inl h.1)
omit [ao_] in
theorem AV.cel_refs {c:AV} (h:c.cel=true):c.refsT=c.refs:=by
 cases c<;>first|rfl|simp [AV.cel] at h
omit [ao_] in
theorem mX_ {td:TD} {cs:List AV} (h:Used x (cs.flatMap AV.refs)) (hn:cs.all AV.cel=true):Used x (td.val cs).refsT:=by
 unfold TD.val
 cases td.agg with
 |true=>exact h
 |false=>
  cases cs with
  |nil=>exact bR_
  |cons c cs=>
   simp only [List.all_cons,Bool.and_eq_true] at hn
   intro q hq
   exact h q (List.mem_flatMap.2 ⟨c,List.mem_cons_self ..,by rw [←AV.cel_refs hn.1];exact hq⟩)
omit [ao_] in
theorem c1_ {b o:Nat} {vals:List Value} (h:w.rangeAt b o vals) (k n:Nat):w.rangeAt b (o+k) ((vals.drop k).take n):=by
 intro j v hj
 rw [List.getElem?_take] at hj
 split at hj
 · rw [List.getElem?_drop] at hj
   have:=h (k+j) v hj
   rwa [←Nat.add_assoc] at this
 · cases hj
omit [ao_] in
theorem eJ_ {b:Nat} {cur:List Value} {T fr} (h:w.heap[b]?=some (.cells (List.toArray cur) T fr)):w.rangeAt b 0 cur:=by
 intro j v hj
 rw [Nat.zero_add,cell_of_row w b j _ T fr h]
 simpa using hj
theorem cN_ [aq_] (m:M) (t:TC):∀ xs:List (El t),(aV_ m t xs).length=xs.length*t.width
 |[]=>by simp [aV_]
 |x::xs=>by
  have:=cN_ m t xs
  simp only [aV_,List.flatMap_cons,List.length_append,aq_.len,List.length_cons,Nat.add_mul] at *
  omega
theorem bV_ (m:M) (t:TC) (xs ys:List (El t)):aV_ m t (xs++ys)=aV_ m t xs++aV_ m t ys:=by simp [aV_]
theorem RL.row [aq_] {F:Nat→Prop} {m:M} {t:TC} {xs:List (El t)} {vals φ} (h:RL E w F (aV_ m t xs) vals φ) {i:Nat} (hi:i<xs.length) :
  ∃ us vs ws φ₁ φ₂ φ₃,vals=us++vs++ws∧us.length=i*t.width∧vs.length=t.width∧RL E w F (aV_ m t (xs.take i)) us φ₁∧RL E w F (enc m t (xs.getD i (El.dflt t))) vs φ₂ ∧
    RL E w F (aV_ m t (xs.drop (i+1))) ws φ₃∧∀ b,φ b=φ₁ b+φ₂ b+φ₃ b:=by
 have e:xs=xs.take i++(xs.getD i (El.dflt t)::xs.drop (i+1)):=by
  have h1:xs.getD i (El.dflt t)=xs[i]:=by simp [List.getD_eq_getElem?_getD,List.getElem?_eq_getElem hi]
  rw [h1,List.getElem_cons_drop,List.take_append_drop]
 have h2:RL E w F (aV_ m t (xs.take i)++(enc m t (xs.getD i (El.dflt t))++aV_ m t (xs.drop (i+1)))) vals φ:=by
  have h3:aV_ m t (xs.take i)++(enc m t (xs.getD i (El.dflt t))++aV_ m t (xs.drop (i+1)))=aV_ m t xs:=by
   conv=>rhs;rw [e]
   rw [bV_]
   simp [aV_]
  rw [h3];exact h
 obtain ⟨us,r,φ₁,φ',rfl,k1,k2,e1⟩:=RL.split h2
 obtain ⟨vs,ws,φ₂,φ₃,rfl,k3,k4,e2⟩:=RL.split k2
 refine ⟨us,vs,ws,φ₁,φ₂,φ₃,by rw [List.append_assoc],?_,?_,k1,k3,k4,fun b=>by rw [e1,e2];omega⟩
 · rw [←k1.length,cN_,List.length_take,Nat.min_eq_left (Nat.le_of_lt hi)]
 · rw [←k3.length,aq_.len]
omit [ao_] in
theorem eK_ {t e size n v vals g a c} (h:w.ownsRow t e size v n vals) (hv:v = .slice (some ⟨g,0,none⟩) a c):w.rangeAt g 0 vals:=by
 subst hv
 intro j u hu
 have:=h.cells (g:=g) rfl j u hu
 rwa [Addr.add_mid] at this
def AV.coded (m:M) (a:AV):Prop:=(∃ k n,a = .i k n)∨(∃ q,a = .b q)∨(∃ l,a = .s l)∨∃ t' xs,a = .sl m t' xs
theorem RL.vzero {F:Nat→Prop} {t ys v φ} (h:RL E w F [.sl .v t ys] [v] φ):∀ b,φ b=0:=by
 cases h with
 |scal _ _ _ _ _ hs _=>exact hs.elim
 |view=>rename_i h2;exact (RL.nil_inv h2).2
 |own=>rename_i hv _ _ _ _ _;exact absurd rfl hv
theorem jN_ {m:M} {q st i:Nat} (hm:m ≠ .v):∀ (l:List AV) (j:Nat) (us:List Value) (φ),RL E w (Fof x G) l us φ→(∀ a ∈ l,a.coded m.sub) →
  (m = .d→∀ (k:Nat) t' ys v,l[k]?=some (.sl .d t' ys)→us[k]?=some v→v.oneCell'=true→RF E w x G (.ns q st i (j+k) t' ys) v) →
  AllF (RF E w x G) (fd_ m q st i j (l.map AV.asView)) us
 |[],j,us,φ,h,_,_=>by obtain ⟨rfl,_⟩:=RL.nil_inv h;trivial
 |a::l,j,us,φ,h,hc,hn=>by
  obtain ⟨v,vs,φ₁,φ₂,rfl,h1,h2,e⟩:=RL.uncons h
  have ih:=jN_ hm l (j+1) vs φ₂ h2 (fun a ha=>hc a (List.mem_cons_of_mem _ ha)) fun hd k t' ys u hk hu ho=>by
   have:=hn hd (k+1) t' ys u (by simpa using hk) (by simpa using hu) ho
   rwa [show j+(k+1)=j+1+k from by omega] at this
  rcases hc a (List.mem_cons_self ..) with ⟨k,n,rfl⟩|⟨p,rfl⟩|⟨p,rfl⟩|⟨t',ys,rfl⟩
  · refine ⟨?_,ih⟩
    cases h1 with
    |scal _ _ _ _ _ hs _=>exact .scal _ _ _ _ _ hs (.nil _ fun _=>rfl)
  · refine ⟨?_,ih⟩
    cases h1 with
    |scal _ _ _ _ _ hs _=>exact .scal _ _ _ _ _ hs (.nil _ fun _=>rfl)
  · refine ⟨?_,ih⟩
    cases h1 with
    |scal _ _ _ _ _ hs _=>exact .scal _ _ _ _ _ hs (.nil _ fun _=>rfl)
  · cases m with
    |v=>exact absurd rfl hm
    |s=>
     exact ⟨h1.congr fun b=>by rw [RL.vzero h1 b],ih⟩
    |d=>
     refine ⟨hn rfl 0 t' ys v rfl rfl ?_,ih⟩
     cases h1 with
     |scal _ _ _ _ _ hs _=>exact hs.elim
     |own _ _ _ _ _ _ _ _ _ _ _ how=>rcases how.2 with ⟨rfl,_⟩|⟨_,_,_,rfl,_⟩<;>rfl
theorem RL.norefs {F:Nat→Prop} {l us φ} (h:RL E w F l us φ):∀ a ∈ l,a.refs=[]:=by
 induction h with
 |nil=>intro a ha;cases ha
 |scal a v l vs φ hs _ ih=>
  intro b hb
  rcases List.mem_cons.1 hb with rfl|hb
  · cases b<;>first|rfl|exact hs.elim
  · exact ih b hb
 |view _ _ _ _ _ _ _ _ _ _ _ _ _ _ _ _ ih=>intro b hb;rcases List.mem_cons.1 hb with rfl|hb<;>first|rfl|exact ih _ hb
 |own _ _ _ _ _ _ _ _ _ _ _ _ _ _ _ _ _ ih=>intro b hb;rcases List.mem_cons.1 hb with rfl|hb<;>first|rfl|exact ih _ hb
 |pc _ _ _ _ _ _ _ _ _ _ _ _ _ _ _ _ ih=>intro b hb;rcases List.mem_cons.1 hb with rfl|hb<;>first|rfl|exact ih _ hb
 |bx _ _ _ _ _ _ _ _ _ _ _ _ _ _ _ ih=>intro b hb;rcases List.mem_cons.1 hb with rfl|hb<;>first|rfl|exact ih _ hb
 |ag _ _ _ _ _ _ _ _ _ _ _ ih=>intro b hb;rcases List.mem_cons.1 hb with rfl|hb<;>first|rfl|exact ih _ hb
 |tu _ _ _ _ _ _ _ _ _ _ _ ih=>intro b hb;rcases List.mem_cons.1 hb with rfl|hb<;>first|rfl|exact ih _ hb
 |clo _ _ _ _ _ _ _ _ _ _ _ ih=>intro b hb;rcases List.mem_cons.1 hb with rfl|hb<;>first|rfl|exact ih _ hb
omit [ao_] in
theorem AllF.len {P:AV→Value→Prop} {l us} (h:AllF P l us):us.length=l.length:=h.length.symm
section
variable (hM:Mem E x w G)
include hM
theorem go_load [aq_] {T td} (ht:TDok E T td) {a} (ho:o.op = .load T a) {p:AV} (hp:RT E w x G p (α a)) (hu:Used x p.refsT) {cs:List AV} (h:loadAt x td.size p=some cs)
  (hl:cs.length=td.size) (hc:cs.all AV.cel=true) (hk:κ x (td.val cs)=some r):bm_ E o α κ r x w G:=by
 have fin:∀ {b off us},α a = .pointer (some ⟨b,off,none⟩)→w.rangeAt b off us→AllF (RF E w x G) cs us→Used x (cs.flatMap AV.refs)→bm_ E o α κ r x w G:=by
  intro b off us e hr hall hus
  exact bm_.value (n7_ ht ho e hr (hall.len.trans hl)) (Goes.same hM hk (RT.val ht hall hl) (mX_ hus hc))
 cases p<;>simp only [loadAt] at h<;>(try (cases h;done))
 case pb q off=>
  cases hq:x.h q with
  |none=>rw [hq] at h;cases h
  |some blk=>
   rw [hq] at h
   cases blk with
   |arr=>cases h
   |ext=>cases h
   |box bs=>
    simp only [Option.some.injEq] at h
    have hf:=hp.rf (by intro cs e;cases e) (by intro cs e;cases e) (by intro f cs e;cases e)
    obtain ⟨⟨cur,T',hcur,hall⟩,hφ,hus⟩:=hM.root q _ hq
    subst h
    refine fin (hf.2 bs hq) (us:=(cur.drop off).take td.size) ?_ ((hall.drop off).take _) ?_
    · have:=c1_ (eJ_ hcur) off td.size
      rwa [Nat.zero_add] at this
    · intro z hz
      obtain ⟨c,hc1,hc2⟩:=List.mem_flatMap.1 hz
      exact hus z (List.mem_flatMap.2 ⟨c,List.mem_of_mem_drop (List.mem_of_mem_take hc1),hc2⟩)
 case pe q i off=>
  cases hq:x.h q with
  |none=>rw [hq] at h;cases h
  |some blk=>
   rw [hq] at h
   cases blk with
   |box=>cases h
   |ext=>cases h
   |arr m t st xs=>
    simp only [Option.some.injEq] at h
    have hf:=hp.rf (by intro cs e;cases e) (by intro cs e;cases e) (by intro f cs e;cases e)
    obtain ⟨hi,g,n,c,hsv,hv⟩:=hf.2 _ _ _ _ (.arr hq)
    obtain ⟨hm,how,ψ,hrl,hφ⟩:=hM.root q _ hq
    obtain ⟨us,vs,ws,φ₁,φ₂,φ₃,hvals,hl1,hl2,k1,k2,k3,he⟩:=hrl.row hi
    have hall:AllF (RF E w x G) (fd_ m q st i 0 (enc .v t (xs.getD i (El.dflt t)))) vs:=by
     have:=jN_ (x:=x) (G:=G) (q:=q) (st:=st) (i:=i) hm (enc m.sub t (xs.getD i (El.dflt t))) 0 vs φ₂ k2 (fun a ha=>aq_.cell _ _ _ a ha) ?_
     · rwa [aq_.view] at this
     · intro hd k t' ys v hk' hv' ho'
       subst hd
       refine ⟨ho',fun m' t'' st' xs' hq' => ?_,fun _ hq'=>by rw [hq] at hq';cases hq'⟩
       rw [hq] at hq'
       cases hq'
       refine ⟨Nat.le_refl _,fun _=>⟨hi,by rw [Nat.zero_add];exact hk',?_⟩⟩
       rw [hvals,Nat.zero_add,List.append_assoc,List.getElem?_append_right (by omega),hl1,List.getElem?_append_left (by
        have:=(List.getElem?_eq_some_iff.1 hv').1
        omega)]
       rw [show i*t.width+k - i*t.width=k from by omega]
       exact hv'
    subst h
    refine fin hv (us:=(vs.drop off).take td.size) ?_ ((hall.drop off).take _) ?_
    · have h1:=eK_ how hsv
      have h2:=c1_ h1 (i*t.width) t.width
      have h3:((G.vals q).drop (i*t.width)).take t.width=vs:=by
       rw [hvals,List.append_assoc,←hl1,List.drop_left,←hl2,List.take_left]
      rw [h3] at h2
      have:=c1_ h2 off td.size
      rwa [Nat.zero_add] at this
    · intro z hz
      obtain ⟨c,hc1,hc2⟩:=List.mem_flatMap.1 hz
      have hc3:=List.mem_of_mem_drop (List.mem_of_mem_take hc1)
      have key:∀ (l:List AV) (j:Nat) (c:AV),(∀ a ∈ l,a.coded .v)→c ∈ fd_ m q st i j l→∀ z ∈ c.refs,z=q:=by
       intro l
       induction l with
       |nil=>intro j c _ hc;cases hc
       |cons a l ih=>
        intro j c ha hc z hz
        rcases ha a (List.mem_cons_self ..) with ⟨k,n,rfl⟩|⟨p,rfl⟩|⟨p,rfl⟩|⟨t',ys,rfl⟩
        · rcases List.mem_cons.1 hc with rfl|hc
          · simp [AV.refs] at hz
          · exact ih _ _ (fun a h=>ha a (List.mem_cons_of_mem _ h)) hc z hz
        · rcases List.mem_cons.1 hc with rfl|hc
          · simp [AV.refs] at hz
          · exact ih _ _ (fun a h=>ha a (List.mem_cons_of_mem _ h)) hc z hz
        · rcases List.mem_cons.1 hc with rfl|hc
          · simp [AV.refs] at hz
          · exact ih _ _ (fun a h=>ha a (List.mem_cons_of_mem _ h)) hc z hz
        · rcases List.mem_cons.1 hc with rfl|hc
          · cases m<;>simp [AV.refs] at hz<;>exact hz
          · exact ih _ _ (fun a h=>ha a (List.mem_cons_of_mem _ h)) hc z hz
      rw [key _ 0 c (fun a ha=>aq_.cell _ _ _ a ha) hc3 z hc2]
      exact hM.used q _ hq
 case pc bs off=>
  simp only [Option.some.injEq] at h
  have hf:=hp.rf (by intro cs e;cases e) (by intro cs e;cases e) (by intro f cs e;cases e)
  generalize hv:α a=V at hf
  cases hf with
  |scal _ _ _ _ _ hs _=>exact hs.elim
  |pc _ b o' _ vals z _ _ _ h1 hz hr hlt hF _=>
   subst h
   refine fin hv (us:=(vals.drop off).take td.size) (c1_ hr off td.size) (((h1.allRF hz).drop off).take _) ?_
   intro z' hz'
   obtain ⟨c,hc1,hc2⟩:=List.mem_flatMap.1 hz'
   rw [h1.norefs c (List.mem_of_mem_drop (List.mem_of_mem_take hc1))] at hc2
   cases hc2
end
end Go.Pi
end
section
namespace Go.Pi
def av_.put (G:av_) (q:Nat) (sv:Value) (vals:List Value) (φ:Nat→Nat) (g:Nat):av_ :=
 ⟨fun r=>if r=q then sv else G.sv r,fun r=>if r=q then vals else G.vals r,fun r=>if r=q then φ else G.φ r,fun r=>if r=q then g else G.g r⟩
theorem a3_ {α:Type} (f:Nat→α) (k:Nat) (v:α):upd f k v k=v:=by simp [upd]
theorem a6_ {α:Type} (f:Nat→α) (k:Nat) (v:α) {j:Nat} (h:j≠k):upd f k v j=f j:=by
 have:Nat.beq j k=false:=by
  cases hb:Nat.beq j k with
  |false=>rfl
  |true=>exact absurd (Nat.eq_of_beq_eq_true hb) h
 simp [upd,this]
structure Grew (w w':World):Prop where
 os:w'.os=w.os
 tape:w'.tape=w.tape
 output:w'.output=w.output
 size:w.heap.size≤w'.heap.size
 heap:∀ b,b<w.heap.size→w'.heap[b]?=w.heap[b]?
theorem Grew.alloc (w:World) (o:Obj):Grew w (w.alloc o):=⟨rfl,rfl,rfl,by simp,fun b hb=>heap_alloc_old w o b hb⟩
def Sub (x' x:X):Prop:=(∀ r b,x'.h r=some b→x.h r=some b)∧x'.u=x.u
theorem Sub.refl (x:X):Sub x x:=⟨fun _ _ h=>h,rfl⟩
theorem Sub.trans {a b c:X} (h:Sub a b) (k:Sub b c):Sub a c:=⟨fun r q hq=>k.1 r q (h.1 r q hq),h.2.trans k.2⟩
theorem Sub.kill (x:X) (q:Nat):Sub (x.blk q none) x:=by
 refine ⟨fun r b h => ?_,rfl⟩
 by_cases e:r=q
 · subst e;simp [X.blk,a3_] at h
 · simpa [X.blk,a6_ _ _ _ e] using h
theorem Sub.fof {x' x:X} {G:av_} (h:Sub x' x) {b:Nat} (hb:Fof x' G b):Fof x G b:=by
 obtain ⟨r,k,h1,h2⟩:=hb
 exact ⟨r,k,h.1 r k h1,h2⟩
theorem Sub.evo {x' x:X} {w:World} {G:av_} (h:Sub x' x):Evo x w G x' w G :=
 ⟨rfl,rfl,rfl,Nat.le_refl _,fun _ _ _=>rfl,fun b _ hb=>h.fof hb,fun r hr=>by rw [h.2];exact hr,fun r blk' _ hr=>⟨blk',h.1 r _ hr,Same.refl _,rfl,rfl,fun _ _ _ _ _ _ _ _ _=>rfl⟩,fun _ _ _ _=>⟨rfl,fun _ _=>rfl⟩⟩
variable [ao_]
open ao_
variable {E:Env} {x:X} {w w':World} {G:av_}
theorem Mem.sub (hM:Mem E x w G) {x'} (h:Sub x' x):Mem E x' w G :=
 hM.build h.evo (fun _=>False) (fun _ _ _=>rfl) (fun r blk hr=>.inl ⟨h.1 r _ hr,rfl,rfl,rfl,fun _=>rfl,fun _ _=>id⟩)
  (fun r r' blk blk' b h1 h2=>hM.sep r r' blk blk' b (h.1 _ _ h1) (h.1 _ _ h2))
def X.add (x:X) (q:Nat) (blk:Blk):X:=⟨upd x.h q (some blk),upd x.u q true⟩
omit [ao_] in
theorem Evo.add {x1:X} (hS:Sub x1 x) {q} (hq:x.u q=false) (hw:Grew w w') {blk sv vals φ g} (hφ:∀ b,φ b≠0→b<w.heap.size→Fof x G b) :
  Evo x w G (x1.add q blk) w' (G.put q sv vals φ g):=by
 refine ⟨hw.os,hw.tape,hw.output,hw.size,fun b hb _=>hw.heap b hb,fun b hb hF => ?_,fun r hr => ?_,fun r blk' hu hr => ?_,fun r b hu hr => ?_⟩
 · obtain ⟨r,k,h1,h2⟩:=hF
   by_cases e:r=q
   · subst e
     simp only [av_.put,if_true] at h2
     exact hφ b h2 hb
   · simp only [av_.put,if_neg e] at h2
     simp only [X.add,a6_ _ _ _ e] at h1
     exact ⟨r,k,hS.1 _ _ h1,h2⟩
 · by_cases e:r=q
   · subst e;exact a3_ _ _ _
   · simp only [X.add,a6_ _ _ _ e,hS.2];exact hr
 · by_cases e:r=q
   · subst e;rw [hq] at hu;cases hu
   · simp only [X.add,a6_ _ _ _ e] at hr
     refine ⟨blk',hS.1 _ _ hr,Same.refl _,by simp only [av_.put,if_neg e],by simp only [av_.put,if_neg e],fun _ _ _ _ _ _ _ _ _=>by simp only [av_.put,if_neg e]⟩
 · by_cases e:r=q
   · subst e;rw [hq] at hu;cases hu
   · exact ⟨by simp only [av_.put,if_neg e],fun _ hlt=>hw.heap b hlt⟩
theorem Mem.add (hM:Mem E x w G) {x1:X} (hS:Sub x1 x) {q} (hq:x.u q=false) (hw:Grew w w') {blk sv vals φ g} (hφ:∀ b,φ b≠0→b<w.heap.size→Fof x G b∧¬ Fof x1 G b) (h1:∀ b,φ b≤1) (hlt:∀ b,φ b≠0→b<w'.heap.size)
  (hroot:gv_ E (x1.add q blk) w' (G.put q sv vals φ g) q blk):Mem E (x1.add q blk) w' (G.put q sv vals φ g):=by
 have ev:=Evo.add hS hq hw (blk:=blk) (sv:=sv) (vals:=vals) (φ:=φ) (g:=g) fun b h2 h3=>(hφ b h2 h3).1
 have alive:∀ r blk',r≠q→(x1.add q blk).h r=some blk'→x1.h r=some blk':=fun r blk' e h=>by simpa only [X.add,a6_ _ _ _ e] using h
 refine hM.build ev (fun _=>False) (fun b hb _=>hw.heap b hb) (fun r blk' hr => ?_) (fun r r' b1 b2 b k1 k2 k3 k4 => ?_)
 · by_cases e:r=q
   · subst e
     have:blk=blk':=by simpa only [X.add,a3_,Option.some.injEq] using hr
     subst this
     exact .inr ⟨hroot,a3_ _ _ _,fun b=>by simp only [av_.put,if_true];exact ⟨h1 b,hlt b⟩⟩
   · exact .inl ⟨hS.1 _ _ (alive r _ e hr),by simp only [av_.put,if_neg e],by simp only [av_.put,if_neg e],by simp only [av_.put,if_neg e],fun b=>by simp only [av_.put,if_neg e],fun _ _=>id⟩
 · by_cases e:r=q
   · by_cases e':r'=q
     · rw [e,e']
     · exfalso
       subst e
       simp only [av_.put,if_true] at k3
       simp only [av_.put,if_neg e'] at k4
       have h5:=hM.low r' b2 b (hS.1 _ _ (alive r' _ e' k2)) k4
       exact (hφ b k3 h5).2 ⟨r',b2,alive r' _ e' k2,k4⟩
   · by_cases e':r'=q
     · exfalso
       subst e'
       simp only [av_.put,if_true] at k4
       simp only [av_.put,if_neg e] at k3
       have h5:=hM.low r b1 b (hS.1 _ _ (alive r _ e k1)) k3
       exact (hφ b k4 h5).2 ⟨r,b1,alive r _ e k1,k3⟩
     · simp only [av_.put,if_neg e] at k3
       simp only [av_.put,if_neg e'] at k4
       exact hM.sep r r' b1 b2 b (hS.1 _ _ (alive r _ e k1)) (hS.1 _ _ (alive r' _ e' k2)) k3 k4
variable {ω:Type} {κ:X→AV→Option ω} {r:ω} {o:Oper} {α:Operand→Value}
theorem Goes.box (hM:Mem E x w G) {q cs cur T} (hq:x.u q=false) (hc:AllF (RF E w x G) cs cur) (hu:Used x (cs.flatMap AV.refs)) (hk:κ (x.add q (.box cs)) (.pb q 0)=some r) :
  Goes E κ r x w G (.pointer (some ⟨w.heap.size,0,none⟩)) (w.alloc (.cells (List.toArray cur) T)):=by
 have hw:=Grew.alloc w (.cells (List.toArray cur) T)
 have hφ:∀ b,(if w.heap.size=b then 1 else 0)≠0→b<w.heap.size→Fof x G b∧¬ Fof x G b:=fun b h1 h2=>by
  by_cases e:w.heap.size=b
  · omega
  · simp [e] at h1
 have ev:=Evo.add (Sub.refl x) hq hw (blk:=.box cs) (sv:=undef) (vals:=[]) (φ:=fun b=>if w.heap.size=b then 1 else 0) (g:=w.heap.size) (fun b h1 h2=>(hφ b h1 h2).1)
 refine ⟨_,_,_,hk,ev,hM.add (Sub.refl x) hq hw hφ (fun b=>by split<;>omega) (fun b h1 => ?_) ?_,?_,?_⟩
 · by_cases e:w.heap.size=b
   · subst e;simp
   · simp [e] at h1
 · refine ⟨⟨cur,T,?_,hc.evolve ev hu⟩,fun b => ?_,hu.evolve ev⟩
   · simp only [av_.put,if_true]
     exact heap_alloc_new w _
   · simp only [av_.put,if_true]
 · refine .flat _ _ (.inl ⟨rfl,fun cs' _ => ?_⟩)
   simp only [av_.put,if_true]
 · intro z hz
   simp only [AV.refsT,AV.refsD,AV.refs,List.mem_singleton] at hz
   subst hz
   exact a3_ _ _ _
end Go.Pi
end
section
namespace Go.Pi
variable [ao_]
open ao_
variable {ω:Type}
variable {E:Env} {x:X} {w w':World} {G:av_} {κ:X→AV→Option ω} {r:ω} {o:Oper} {α:Operand→Value}
theorem RF.of_scl {a v} (h:scl a v):RF E w x G a v:=by
 have:RL E w (Fof x G) [a] [v] (fun _=>0):=.scal _ _ _ _ _ h (.nil _ fun _=>rfl)
 cases a<;>first|exact this|exact h.elim
omit [ao_] in
theorem scl_refs {a v} (h:scl a v):a.refs=[]:=by cases a<;>first|rfl|exact h.elim
omit [ao_] in
theorem AllF.scl_refs:∀ {l us},AllF scl l us→l.flatMap AV.refs=[]
 |[],[],_=>rfl
 |a::l,u::us,h=>by rw [List.flatMap_cons,Pi.scl_refs h.1,AllF.scl_refs h.2];rfl
 |[],_::_,h=>h.elim
 |_::_,[],h=>h.elim
section
variable (hM:Mem E x w G)
include hM
theorem go_alloc {T td} (ht:TDok E T td) (ho:o.op = .alloc T) {q} (h:x.new q (.box td.zero) (fun x=>κ x (.pb q 0))=some r):bm_ E o α κ r x w G:=by
 unfold X.new at h
 cases hq:x.u q with
 |true=>rw [hq] at h;cases h
 |false=>
  rw [hq] at h
  obtain ⟨h1,h2,i,z,zs,hi,hz,hzs,hall⟩:=ht.zero
  refine bm_.value (V:=.pointer (some ⟨w.heap.size,0,none⟩)) (w':=w.alloc (.cells (List.toArray zs) T)) ?_ (Goes.box hM hq (hall.mono fun a v _ h=>RF.of_scl h) (by rw [hall.scl_refs];exact bR_) h)
  simp [execOp,ho,Instr.alloc,zeroValue,typeInfo,hi,hz,newVar,newRow,hzs]
theorem go_box {T a} (ho:o.op = .box T a) {p:AV} (hp:RT E w x G p (α a)) (hu:Used x p.refsT) (hl:p.cells.all AV.one=true) {q} (h:x.new q (.box p.cells) (fun x=>κ x (.pb q 0))=some r):bm_ E o α κ r x w G:=by
 unfold X.new at h
 cases hq:x.u q with
 |true=>rw [hq] at h;cases h
 |false=>
  rw [hq] at h
  obtain ⟨us,e,hall⟩:=hp.cells hl
  refine bm_.value (V:=.pointer (some ⟨w.heap.size,0,none⟩)) (w':=w.alloc (.cells (List.toArray us) T)) ?_ (Goes.box hM hq hall ?_ h)
  · simp [execOp,ho,Instr.box,newVar,newRow,e]
  · intro z hz
    refine hu z ?_
    cases p<;>first
     |exact hz
     |(simp only [AV.cells,List.flatMap_cons,List.flatMap_nil,List.append_nil] at hz;exact hz)
     |(simp [AV.cells,AV.one] at hl)
omit hM in
omit [ao_] in
theorem Fof.of {q blk b} (hq:x.h q=some blk) (h:G.φ q b≠0):Fof x G b:=⟨q,blk,hq,h⟩
theorem fT_ {x1:X} (hS:Sub x1 x):∀ (cs:List AV) (x1:X),Sub x1 x→∀ us x2 cs' ok,AllF (RF E w x G) cs us→bc_ x1 cs=some (x2,cs',ok) →
  Sub x2 x1∧∃ φ,RL E w (Fof x G) cs' us φ∧(ok=true→cs'.all AV.okD=true)∧(∀ b,φ b≤1)∧(∀ b,φ b≠0→¬ Fof x2 G b)∧∀ b,φ b≠0→∃ q blk,x1.h q=some blk∧x2.h q=none∧G.φ q b≠0:=by
 intro cs
 induction cs with
 |nil=>
  intro x1 hS us x2 cs' ok hall h
  simp only [bc_,Option.some.injEq,Prod.mk.injEq] at h
  obtain ⟨rfl,rfl,rfl⟩:=h
  cases us with
  |cons=>exact hall.elim
  |nil=>exact ⟨Sub.refl _,fun _=>0,.nil _ fun _=>rfl,fun _=>rfl,fun _=>Nat.zero_le _,fun b hb=>absurd rfl hb,fun b hb=>absurd rfl hb⟩
 |cons c cs ih=>
  intro x1 hS us x2 cs' ok hall h
  cases us with
  |nil=>exact hall.elim
  |cons u us=>
   obtain ⟨hc,hall⟩:=hall
   have plain:∀ (c':AV) (f:Bool→Bool),RL E w (Fof x G) [c'] [u] (fun _=>0)→(∀ ok,f ok=true→ok=true∧c'.okD=true) →
     (match bc_ x1 cs with|some (x',l',ok)=>some (x',c'::l',f ok)|none=>none)=some (x2,cs',ok) →
     Sub x2 x1∧∃ φ,RL E w (Fof x G) cs' (u::us) φ∧(ok=true→cs'.all AV.okD=true)∧(∀ b,φ b≤1)∧(∀ b,φ b≠0→¬ Fof x2 G b)∧∀ b,φ b≠0→∃ q blk,x1.h q=some blk∧x2.h q=none∧G.φ q b≠0:=by
    intro c' f hrl hf h
    cases hi:bc_ x1 cs with
    |none=>rw [hi] at h;cases h
    |some p=>
     obtain ⟨x',l',ok'⟩:=p
     rw [hi] at h
     simp only [Option.some.injEq,Prod.mk.injEq] at h
     obtain ⟨rfl,rfl,rfl⟩:=h
     obtain ⟨s1,φ,k1,k2,k3,k4,k5⟩:=ih x1 hS us _ _ _ hall hi
     exact ⟨s1,φ,hrl.cons k1 (fun b=>by simp only [Nat.zero_add]),fun h=>by have:=hf _ h;simp [this.2,k2 this.1],k3,k4,k5⟩
   cases c<;>simp only [bc_] at h<;>(try (cases h;done))
   case i=>exact plain _ id (by simpa only [RF] using hc) (fun ok h=>⟨h,rfl⟩) h
   case b=>exact plain _ id (by simpa only [RF] using hc) (fun ok h=>⟨h,rfl⟩) h
   case s=>exact plain _ id (by simpa only [RF] using hc) (fun ok h=>⟨h,rfl⟩) h
   case nils=>exact plain _ id (by simpa only [RF] using hc) (fun ok h=>⟨h,rfl⟩) h
   case sl m t xs=>
    cases m<;>simp only at h<;>(try (cases h;done))
    exact plain (.sl .v t xs) (fun _=>false) hc (fun ok h=>by cases h) h
   case rt q=>
    cases hq:x1.h q with
    |none=>rw [hq] at h;cases h
    |some blk=>
     rw [hq] at h
     cases blk with
     |box=>cases h
     |ext=>cases h
     |arr m t st xs=>
      simp only at h
      cases hi:bc_ (x1.blk q none) cs with
      |none=>rw [hi] at h;cases h
      |some p=>
       obtain ⟨x',l',ok'⟩:=p
       rw [hi] at h
       simp only [Option.some.injEq,Prod.mk.injEq] at h
       obtain ⟨rfl,rfl,rfl⟩:=h
       obtain ⟨s1,φ,k1,k2,k3,k4,k5⟩:=ih (x1.blk q none) ((Sub.kill x1 q).trans hS) us _ _ _ hall hi
       have hq0:=hS.1 q _ hq
       obtain ⟨hm,how,ψ,hrl,hφ⟩:=hM.root q _ hq0
       have hsv:=hc.2 _ _ _ _ (.arr hq0)
       have hdead:x'.h q=none:=by
        cases e:x'.h q with
        |none=>rfl
        |some b=>have:=s1.1 q b e;simp [X.blk,a3_] at this
       have hap:∀ b,G.φ q b≠0→φ b=0:=fun b hb=>by
        by_cases h0:φ b=0
        · exact h0
        · obtain ⟨q',blk',e1,e2,e3⟩:=k5 b h0
          have e4:=hM.sep q q' _ _ b hq0 (hS.1 _ _ ((Sub.kill x1 q).1 _ _ e1)) hb e3
          subst e4
          simp [X.blk,a3_] at e1
       refine ⟨s1.trans (Sub.kill x1 q),fun b=>G.φ q b+φ b,?_,?_,?_,?_,?_⟩
       · subst hsv
         exact .own m t xs _ _ ψ _ _ φ _ hm how hrl (fun b hb=>⟨q,_,hq0,by rw [hφ];omega⟩) k1 (fun b=>by rw [hφ])
       · intro h
         simp only [Bool.and_eq_true] at h
         simp only [List.all_cons,k2 h.1,Bool.and_true]
         cases m with
         |v=>exact absurd rfl hm
         |s=>exact h.2
         |d=>rfl
       · intro b
         show G.φ q b+φ b≤1
         have:=hM.one q _ b hq0
         by_cases h0:G.φ q b=0
         · have:=k3 b;omega
         · have:=hap b h0;omega
       · intro b hb hF
         have hb:G.φ q b+φ b≠0:=hb
         by_cases h0:φ b=0
         · obtain ⟨q',blk',e1,e2⟩:=hF
           have h1:G.φ q b≠0:=by omega
           have e4:=hM.sep q q' _ _ b hq0 (hS.1 _ _ ((Sub.kill x1 q).1 _ _ (s1.1 _ _ e1))) h1 e2
           subst e4
           rw [hdead] at e1;cases e1
         · exact k4 b h0 hF
       · intro b hb
         have hb:G.φ q b+φ b≠0:=hb
         by_cases h0:φ b=0
         · exact ⟨q,_,hq,hdead,by omega⟩
         · obtain ⟨q',blk',e1,e2,e3⟩:=k5 b h0
           exact ⟨q',blk',(Sub.kill x1 q).1 _ _ e1,e2,e3⟩
end
end Go.Pi
end
section
namespace Go.Pi
theorem AllF.setRange {P:AV→Value→Prop}:∀ {bs:List AV} {cur:List Value} (off:Nat) {cs us},AllF P bs cur→AllF P cs us→off+cs.length≤bs.length→AllF P (setRange bs off cs) (cur.take off++us++cur.drop (off+us.length))
 |bs,cur,0,cs,us,h,k,hl=>by
  have e:Pi.setRange bs 0 cs=cs++bs.drop cs.length:=by cases bs<;>rfl
  rw [e,k.length]
  simpa using k.append (h.drop us.length)
 |[],cur,off+1,cs,us,h,k,hl=>by simp at hl
 |a::bs,[],off+1,cs,us,h,k,hl=>h.elim
 |a::bs,u::cur,off+1,cs,us,h,k,hl=>by
  have ih:=AllF.setRange off h.2 k (by simp at hl ⊢;omega)
  refine ⟨by simpa using h.1,?_⟩
  simpa [Nat.add_right_comm] using ih
theorem fR_:∀ (bs:List AV) (off:Nat) (cs:List AV),off+cs.length≤bs.length→(setRange bs off cs).length=bs.length
 |bs,0,cs,hl=>by
  have e:setRange bs 0 cs=cs++bs.drop cs.length:=by cases bs<;>rfl
  rw [e];simp at hl ⊢;omega
 |[],off+1,cs,hl=>by simp at hl
 |a::bs,off+1,cs,hl=>by
  have:=fR_ bs off cs (by simp at hl ⊢;omega)
  simp [setRange,this]
theorem il_:∀ (bs:List AV) (off:Nat) (cs:List AV),off+cs.length≤bs.length→setRange bs off cs=bs.take off++cs++bs.drop (off+cs.length)
 |bs,0,cs,hl=>by
  have e:setRange bs 0 cs=cs++bs.drop cs.length:=by cases bs<;>rfl
  rw [e];simp
 |[],off+1,cs,hl=>by simp at hl
 |a::bs,off+1,cs,hl=>by
  have:=il_ bs off cs (by simp at hl ⊢;omega)
  simp [setRange,this,Nat.add_right_comm]
theorem fQ_:∀ (bs:List AV) (off:Nat) (cs:List AV) (c:AV),c ∈ setRange bs off cs→c ∈ bs∨c ∈ cs
 |bs,0,cs,c,h=>by
  have e:setRange bs 0 cs=cs++bs.drop cs.length:=by cases bs<;>rfl
  rw [e] at h
  rcases List.mem_append.1 h with h|h
  · exact .inr h
  · exact .inl (List.mem_of_mem_drop h)
 |[],off+1,cs,c,h=>by cases h
 |a::bs,off+1,cs,c,h=>by
  rcases List.mem_cons.1 h with rfl|h
  · exact .inl (List.mem_cons_self ..)
  · rcases fQ_ bs off cs c h with h|h
    · exact .inl (List.mem_cons_of_mem _ h)
    · exact .inr h
variable [ao_]
open ao_
variable {ω:Type}
variable {E:Env} {x:X} {w w':World} {G:av_} {κ:X→AV→Option ω} {r:ω} {o:Oper} {α:Operand→Value}
omit [ao_] in
theorem hj_ {p:AV} (hu:Used x p.refsT) (hl:p.cells.all AV.one=true):Used x (p.cells.flatMap AV.refs):=by
 intro z hz
 refine hu z ?_
 cases p<;>first
  |exact hz
  |(simp only [AV.cells,List.flatMap_cons,List.flatMap_nil,List.append_nil] at hz;exact hz)
  |(simp [AV.cells,AV.one] at hl)
omit [ao_] in
theorem eI_ {T td a v} (ht:TDok E T td) (ho:o.op = .store T a v) {g off:Nat} (ha:α a = .pointer (some ⟨g,off,none⟩)) {us:List Value} (hv:(α v).cells=List.toArray us) (hl:us.length=td.size) (h1:∀ u ∈ us,u.oneCell'=true)
  {cur:Array Value} {t:TypeId} (hg:w.heap[g]?=some (.cells cur t (0,0))) (hfit:off+us.length≤cur.size) :
  (execOp α o).run E.P w = .ok .skip (w.setRow g (cur.toList.take off++us++cur.toList.drop (off+us.length)).toArray):=by
 have hst:=run_storeCells_at E.P g off t us 0 cur w hg (by simpa using hfit) h1
 simp only [Nat.add_zero] at hst
 cases hq:E.P.info? T with
 |none=>have:=ht.size;simp [hq] at this
 |some i=>
  have hs:i.size=td.size:=by have:=ht.size;simpa [hq] using this
  simp [execOp,ho,ha,Instr.storeAt,Instr.sureAddr,storeVar,sizeOf,typeInfo,hq,hv,hs,hl,hst]
theorem bm_.skip {w'} (h:(execOp α o).run E.P w = .ok .skip w') (hg:Goes E κ r x w G undef w'):bm_ E o α κ r x w G:=by
 unfold bm_
 rw [h]
 exact hg
section
variable (hM:Mem E x w G)
include hM
theorem ly_ {T td a v} (ht:TDok E T td) (ho:o.op = .store T a v) {q off} (hp:RT E w x G (.pb q off) (α a)) {p:AV} (hv:RT E w x G p (α v)) (hu:Used x p.refsT) (hl:p.cells.length=td.size) (h1:p.cells.all AV.one=true)
  {bs} (hq:x.h q=some (.box bs)) (hfit:off+p.cells.length≤bs.length) (hk:κ (x.blk q (some (.box (setRange bs off p.cells)))) (.tu [])=some r):bm_ E o α κ r x w G:=by
 obtain ⟨us,e,hall⟩:=hv.cells h1
 obtain ⟨⟨cur,T',hcur,hbs⟩,hφ,hus⟩:=hM.root q _ hq
 have hpv:=(hp.rf (by intro cs e;cases e) (by intro cs e;cases e) (by intro f cs e;cases e)).2 bs hq
 have hlen:us.length=p.cells.length:=hall.len
 have hcl:cur.length=bs.length:=hbs.len
 refine bm_.skip (eI_ ht ho hpv e (hlen.trans hl) (hall.one h1) hcur (by simp [hlen,hcl];exact hfit)) ?_
 simp only
 have hg:∀ b,b≠G.g q→(w.setRow (G.g q) (cur.take off++us++cur.drop (off+us.length)).toArray).heap[b]?=w.heap[b]?:=fun b hb=>setRow_other w _ _ _ hb
 have hal:∀ r' blk,(x.blk q (some (.box (setRange bs off p.cells)))).h r'=some blk→r'≠q→x.h r'=some blk:=fun r' blk h e=>by simpa only [X.blk,a6_ _ _ _ e] using h
 have ev:Evo x w G (x.blk q (some (.box (setRange bs off p.cells)))) (w.setRow (G.g q) (cur.take off++us++cur.drop (off+us.length)).toArray) G:=by
  refine ⟨rfl,rfl,rfl,by simp,fun b hb hF => ?_,fun b hb hF => ?_,fun _ h=>h,fun r' blk' hu' hr' => ?_,fun r' b hu' hr'=>⟨rfl,fun hb _=>hg b fun e => ?_⟩⟩
  · refine hg b fun e=>hF ?_
    subst e
    exact ⟨q,_,hq,by rw [hφ];simp⟩
  · obtain ⟨r',blk,e1,e2⟩:=hF
    by_cases e:r'=q
    · subst e;exact ⟨_,_,hq,e2⟩
    · exact ⟨r',blk,hal _ _ e1 e,e2⟩
  · by_cases e:r'=q
    · subst e
      have:blk' = .box (setRange bs off p.cells):=by simpa only [X.blk,a3_,Option.some.injEq,eq_comm] using hr'
      subst this
      exact ⟨_,hq,.box (fR_ bs off _ hfit).symm,rfl,rfl,fun _ _ _ _ _ _ _ h=>by cases h⟩
    · exact ⟨blk',hal _ _ hr' e,Same.refl _,rfl,rfl,fun _ _ _ _ _ _ _ _ _=>rfl⟩
  · subst e
    by_cases e:r'=q
    · subst e;simp [X.blk,a3_] at hr'
    · exact e (hM.sep r' q _ _ _ (hal _ _ hr' e) hq hb (by rw [hφ];simp))
 refine ⟨_,G,.tu [],hk,ev,?_,.tu [] [] trivial,bR_⟩
 refine hM.build ev (fun b=>b=G.g q) (fun b hb hc=>hg b hc) (fun r' blk hr' => ?_) (fun r1 r2 b1 b2 b k1 k2 k3 k4 => ?_)
 · by_cases e:r'=q
   · subst e
     have:blk = .box (setRange bs off p.cells):=by simpa only [X.blk,a3_,Option.some.injEq,eq_comm] using hr'
     subst this
     refine .inr ⟨⟨⟨cur.take off++us++cur.drop (off+us.length),T',setRow_heap w _ _ _ _ _ hcur,?_⟩,hφ,?_⟩,hM.used _ _ hq,fun b=>⟨hM.one _ _ b hq,fun hb => ?_⟩⟩
     · exact (hbs.evolve ev hus).setRange off (hall.evolve ev (hj_ hu h1)) hfit
     · intro z hz
       obtain ⟨c,hc1,hc2⟩:=List.mem_flatMap.1 hz
       rcases fQ_ _ _ _ _ hc1 with h|h
       · exact ev.used z (hus z (List.mem_flatMap.2 ⟨c,h,hc2⟩))
       · exact ev.used z (hj_ hu h1 z (List.mem_flatMap.2 ⟨c,h,hc2⟩))
     · have:=hM.low _ _ b hq hb;simpa using this
   · refine .inl ⟨hal _ _ hr' e,rfl,rfl,rfl,fun _=>rfl,fun b hb hc=>e ?_⟩
     subst hc
     exact hM.sep r' q _ _ _ (hal _ _ hr' e) hq hb (by rw [hφ];simp)
 · have f:∀ r' blk,(x.blk q (some (.box (setRange bs off p.cells)))).h r'=some blk→∃ blk',x.h r'=some blk':=fun r' blk h=>by
    by_cases e:r'=q
    · subst e;exact ⟨_,hq⟩
    · exact ⟨_,hal _ _ h e⟩
   obtain ⟨b1',e1⟩:=f _ _ k1
   obtain ⟨b2',e2⟩:=f _ _ k2
   exact hM.sep _ _ _ _ b e1 e2 k3 k4
end
theorem Mem.turn (hM:Mem E x w G) {x1:X} (hS:Sub x1 x) {q m t st xs} (hq:x1.h q=some (.arr m t st xs)) {m' st' xs' vals φ} (hlen:xs.length=xs'.length) (hst:st≤st') (hsame:st=st'→xs=xs'∧vals=G.vals q)
  (ho:w'.os=w.os) (hta:w'.tape=w.tape) (hou:w'.output=w.output) (hsz:w'.heap.size=w.heap.size) (hw:∀ b,bP_ (G.sv q) b=0→w'.heap[b]?=w.heap[b]?)
  (hφ:∀ b,φ b≠0→Fof x G b∧∀ r' blk,x1.h r'=some blk→r'≠q→G.φ r' b=0) (h1:∀ b,φ b≤1)
  (hroot:Evo x w G (x1.blk q (some (.arr m' t st' xs'))) w' (G.put q (G.sv q) vals φ (G.g q))→gv_ E (x1.blk q (some (.arr m' t st' xs'))) w' (G.put q (G.sv q) vals φ (G.g q)) q (.arr m' t st' xs')) :
  Evo x w G (x1.blk q (some (.arr m' t st' xs'))) w' (G.put q (G.sv q) vals φ (G.g q))∧Mem E (x1.blk q (some (.arr m' t st' xs'))) w' (G.put q (G.sv q) vals φ (G.g q)):=by
 have hq0:=hS.1 q _ hq
 obtain ⟨hm,how,ψ,hrl,hφq⟩:=hM.root q _ hq0
 have hal:∀ r' blk,(x1.blk q (some (.arr m' t st' xs'))).h r'=some blk→r'≠q→x1.h r'=some blk:=fun r' blk h e=>by simpa only [X.blk,a6_ _ _ _ e] using h
 have hown:∀ b,bP_ (G.sv q) b≠0→G.φ q b≠0:=fun b hb=>by rw [hφq];omega
 have ev:Evo x w G (x1.blk q (some (.arr m' t st' xs'))) w' (G.put q (G.sv q) vals φ (G.g q)):=by
  refine ⟨ho,hta,hou,Nat.le_of_eq hsz.symm,fun b hb hF=>hw b ?_,fun b hb hF => ?_,fun r' h=>by simpa only [X.blk,hS.2] using h,fun r' blk' hu' hr' => ?_,fun r' b hu' hr' => ?_⟩
  · exact Classical.byContradiction fun h0=>hF ⟨q,_,hq0,hown b h0⟩
  · obtain ⟨r',blk,e1,e2⟩:=hF
    by_cases e:r'=q
    · subst e
      simp only [av_.put,if_true] at e2
      exact (hφ b e2).1
    · simp only [av_.put,if_neg e] at e2
      exact ⟨r',blk,hS.1 _ _ (hal _ _ e1 e),e2⟩
  · by_cases e:r'=q
    · subst e
      have:blk' = .arr m' t st' xs':=by simpa only [X.blk,a3_,Option.some.injEq,eq_comm] using hr'
      subst this
      refine ⟨_,hq0,.arr hlen hst (fun e=>(hsame e).1),by simp only [av_.put,if_true],by simp only [av_.put,if_true],fun _ _ _ _ _ _ _ h h' => ?_⟩
      simp only [av_.put,if_true]
      cases h;cases h'
      exact (hsame rfl).2
    · exact ⟨blk',hS.1 _ _ (hal _ _ hr' e),Same.refl _,by simp only [av_.put,if_neg e],by simp only [av_.put,if_neg e],fun _ _ _ _ _ _ _ _ _=>by simp only [av_.put,if_neg e]⟩
  · by_cases e:r'=q
    · subst e;simp [X.blk,a3_] at hr'
    · refine ⟨by simp only [av_.put,if_neg e],fun hb _=>hw b ?_⟩
      exact Classical.byContradiction fun h0=>e (hM.sep r' q _ _ b (hS.1 _ _ (hal _ _ hr' e)) hq0 hb (hown b h0))
 refine ⟨ev,hM.build ev (fun b=>bP_ (G.sv q) b≠0) (fun b hb hc=>hw b (Classical.byContradiction hc)) (fun r' blk hr' => ?_) (fun r1 r2 b1 b2 b k1 k2 k3 k4 => ?_)⟩
 · by_cases e:r'=q
   · subst e
     have:blk = .arr m' t st' xs':=by simpa only [X.blk,a3_,Option.some.injEq,eq_comm] using hr'
     subst this
     refine .inr ⟨hroot ev,ev.used _ (hM.used _ _ hq0),fun b => ?_⟩
     simp only [av_.put,if_true]
     refine ⟨h1 b,fun hb => ?_⟩
     obtain ⟨r3,b3,e1,e2⟩:=(hφ b hb).1
     rw [hsz]
     exact hM.low _ _ b e1 e2
   · refine .inl ⟨hS.1 _ _ (hal _ _ hr' e),by simp only [av_.put,if_neg e],by simp only [av_.put,if_neg e],by simp only [av_.put,if_neg e],fun b=>by simp only [av_.put,if_neg e],fun b hb hc=>e ?_⟩
     exact hM.sep r' q _ _ _ (hS.1 _ _ (hal _ _ hr' e)) hq0 hb (hown b hc)
 · by_cases e:r1=q
   · by_cases e':r2=q
     · rw [e,e']
     · subst e
       simp only [av_.put,if_true] at k3
       simp only [av_.put,if_neg e'] at k4
       exact absurd ((hφ b k3).2 r2 _ (hal _ _ k2 e') e') k4
   · by_cases e':r2=q
     · subst e'
       simp only [av_.put,if_true] at k4
       simp only [av_.put,if_neg e] at k3
       exact absurd ((hφ b k4).2 r1 _ (hal _ _ k1 e) e) k3
     · simp only [av_.put,if_neg e] at k3
       simp only [av_.put,if_neg e'] at k4
       exact hM.sep _ _ _ _ b (hS.1 _ _ (hal _ _ k1 e)) (hS.1 _ _ (hal _ _ k2 e')) k3 k4
end Go.Pi
end
section
namespace Go.Pi
theorem ne_ {α:Type} (A us:List α) (k n:Nat) (h:k+us.length≤n) (hn:n≤A.length):(A.take k++us++A.drop (k+us.length)).take n=(A.take n).take k++us++(A.take n).drop (k+us.length):=by
 rw [List.append_assoc,List.take_append,List.take_append]
 rw [List.take_take,List.take_take,List.length_take]
 rw [Nat.min_eq_left (show k≤A.length by omega),Nat.min_eq_right (show k≤n by omega),Nat.min_eq_left (show k≤n by omega)]
 rw [List.take_of_length_le (show us.length≤n - k by omega),List.drop_take]
 rw [List.append_assoc,show n - k - us.length=n - (k+us.length) by omega]
theorem AV.sim_view (m:M) (a c:AV):AV.sim m a.asView c=AV.sim m a c:=by cases a<;>rfl
theorem k5_ (m:M):∀ (l c:List AV),sims m (l.map AV.asView) c=sims m l c
 |[],[]=>rfl
 |[],_::_=>rfl
 |_::_,[]=>rfl
 |a::l,c::r=>by simp only [List.map_cons,sims,AV.sim_view,k5_ m l r]
variable [ao_]
open ao_
variable {ω:Type}
variable {E:Env} {x:X} {w w':World} {G:av_} {κ:X→AV→Option ω} {r:ω} {o:Oper} {α:Operand→Value}
theorem fx_ [aq_] (m:M) (t:TC) (xs:List (El t)) (i:Nat) (hi:i<xs.length) (y:El t):aV_ m t (xs.set i y)=aV_ m t (xs.take i)++enc m t y++aV_ m t (xs.drop (i+1)):=by
 rw [List.set_eq_take_append_cons_drop,if_pos hi,bV_]
 simp [aV_]
theorem okD_coded [aq_] (t:TC) (y:El t):(enc .d t y).all AV.okD=true:=by
 rw [List.all_eq_true]
 intro a ha
 rcases aq_.cell _ _ _ a ha with ⟨_,_,rfl⟩|⟨_,rfl⟩|⟨_,rfl⟩|⟨_,_,rfl⟩<;>rfl
omit [ao_] in
theorem M.meet_ne {m:M} (h:m ≠ .v) (ok:Bool):m.meet ok ≠ .v:=by
 cases m<;>cases ok<;>first|exact absurd rfl h|(intro h;cases h)
omit [ao_] in
theorem M.meet_sub {m:M} (h:m ≠ .v) (ok:Bool):(m = .d∧ok=true∧m.meet ok = .d)∨(m.meet ok).sub = .v:=by
 cases m<;>cases ok<;>first|exact absurd rfl h|exact .inl ⟨rfl,rfl,rfl⟩|exact .inr rfl
omit [ao_] in
theorem mc_ {w:World} {g:Nat} {cur:Array Value} {t:TypeId} (h:w.heap[g]?=some (.cells cur t (0,0))):w.setRow g cur=w:=by
 have:(w.setRow g cur).heap=w.heap:=by
  apply Array.ext_getElem?
  intro b
  by_cases e:b=g
  · subst e;rw [setRow_heap w _ _ _ _ _ h,h]
  · exact setRow_other w _ _ _ e
 cases w
 simp only [World.setRow] at this ⊢
 rw [this]
theorem go_self [aq_] (hM:Mem E x w G) {T td a v} (ht:TDok E T td) (ho:o.op = .store T a v) {q i off} (hp:RT E w x G (.pe q i off) (α a)) {st t' ys} (hv:RT E w x G (.ns q st i off t' ys) (α v)) (hl:(AV.ns q st i off t' ys).cells.length=td.size)
  {m t xs} (hq:x.h q=some (.arr m t st xs)) (hk:κ x (.tu [])=some r):bm_ E o α κ r x w G:=by
 have hf:=hp.rf (by intro cs e;cases e) (by intro cs e;cases e) (by intro f cs e;cases e)
 obtain ⟨hlt,g,n,c,hsv,hva⟩:=hf.2 _ _ _ _ (.arr hq)
 have hg:=hv.rf (by intro cs e;cases e) (by intro cs e;cases e) (by intro f cs e;cases e)
 obtain ⟨-,hg2⟩:=hg.2.1 _ _ _ _ hq
 obtain ⟨-,hen,hcell⟩:=hg2 rfl
 obtain ⟨hm,how,ψ,hrl,hφ⟩:=hM.root q _ hq
 obtain ⟨cur,hn,hcur,hcap,hcm,hcs,htake⟩:∃ cur,n=xs.length∧w.heap[g]?=some (.cells cur (E.eid t) (0,0))∧xs.length≤c∧c≤maxLen∧cur.size=c*t.width∧cur.toList.take (xs.length*t.width)=G.vals q:=by
  rcases how.2 with ⟨e1,e2⟩|⟨g',cap,cur,e1,_,e3,e4,e5,e6,e7⟩
  · omega
  · rw [hsv] at e1
    cases e1
    exact ⟨cur,rfl,e3,e4,e5,e6,e7⟩
 have hoff:off<t.width:=by
  have:=(List.getElem?_eq_some_iff.1 hen).1
  rwa [aq_.len] at this
 have hwid:(i+1)*t.width≤xs.length*t.width:=Nat.mul_le_mul_right _ hlt
 have hwid2:xs.length*t.width≤c*t.width:=Nat.mul_le_mul_right _ hcap
 have hwid3:(i+1)*t.width=i*t.width+t.width:=by rw [Nat.add_mul,Nat.one_mul]
 have hc1:(α v).cells=List.toArray [α v]:=by
  have:=hg.1
  cases hh:α v<;>simp_all [Value.cells,Value.oneCell']
 have hcl:cur.toList.length=c*t.width:=by simpa using hcs
 have hlen:([α v]:List Value).length=td.size:=hl
 have hrun:=eI_ ht ho hva hc1 hlen (by intro u hu;rw [List.mem_singleton.1 hu];exact hg.1) hcur (by simp;omega)
 have hget:cur.toList[i*t.width+off]?=some (α v):=by
  rw [←htake,List.getElem?_take_of_lt (by omega)] at hcell
  exact hcell
 have hsame:(cur.toList.take (i*t.width+off)++[α v]++cur.toList.drop (i*t.width+off+([α v]:List Value).length)).toArray=cur:=by
  apply Array.toList_inj.1
  have hi':=(List.getElem?_eq_some_iff.1 hget)
  obtain ⟨h1,h2⟩:=hi'
  simp only [List.length_singleton,List.append_assoc]
  rw [←h2,List.singleton_append,←List.drop_eq_getElem_cons h1,List.take_append_drop]
 rw [hsame,mc_ hcur] at hrun
 exact bm_.skip hrun ⟨x,G,.tu [],hk,Evo.refl _ _ _,hM,.tu [] [] trivial,bR_⟩
section
variable (hM:Mem E x w G)
include hM
theorem lz_ [aq_] {T td a v} (ht:TDok E T td) (ho:o.op = .store T a v) {q i off} (hp:RT E w x G (.pe q i off) (α a)) {p:AV} (hv:RT E w x G p (α v)) (hl:p.cells.length=td.size) (h1:p.cells.all AV.one=true)
  {x1 cs ok} (hi:bc_ x p.cells=some (x1,cs,ok)) {m t st xs} (hq:x1.h q=some (.arr m t st xs)) (hfit:off+cs.length≤t.width) {y} (hd:dec t (setRange (enc .v t (xs.getD i (El.dflt t))) off cs)=some y)
  (hk:κ (x1.blk q (some (.arr (m.meet ok) t (st+1) (xs.set i y)))) (.tu [])=some r):bm_ E o α κ r x w G:=by
 obtain ⟨us,e,hall⟩:=hv.cells h1
 obtain ⟨s1,φi,k1,k2,k3,k4,k5⟩:=fT_ hM (Sub.refl x) p.cells x (Sub.refl x) us x1 cs ok hall hi
 have hq0:=s1.1 q _ hq
 have hf:=hp.rf (by intro cs e;cases e) (by intro cs e;cases e) (by intro f cs e;cases e)
 obtain ⟨hlt,g,n,c,hsv,hva⟩:=hf.2 _ _ _ _ (.arr hq0)
 obtain ⟨hm,how,ψ,hrl,hφ⟩:=hM.root q _ hq0
 obtain ⟨cur,hn,hcur,hcap,hcm,hcs,htake⟩:∃ cur,n=xs.length∧w.heap[g]?=some (.cells cur (E.eid t) (0,0))∧xs.length≤c∧c≤maxLen∧cur.size=c*t.width∧cur.toList.take (xs.length*t.width)=G.vals q:=by
  rcases how.2 with ⟨e1,e2⟩|⟨g',cap,cur,e1,_,e3,e4,e5,e6,e7⟩
  · omega
  · rw [hsv] at e1
    cases e1
    exact ⟨cur,rfl,e3,e4,e5,e6,e7⟩
 obtain ⟨us0,vs0,ws0,φ₁,φ₂,φ₃,hvals,hl1,hl2,j1,j2,j3,hψ⟩:=hrl.row hlt
 have hlus:us.length=cs.length:=k1.length.symm
 have hlen:us.length=td.size:=hall.len.trans hl
 have hwid:(i+1)*t.width≤xs.length*t.width:=Nat.mul_le_mul_right _ hlt
 have hwid2:xs.length*t.width≤c*t.width:=Nat.mul_le_mul_right _ hcap
 have hwid3:(i+1)*t.width=i*t.width+t.width:=by rw [Nat.add_mul,Nat.one_mul]
 have hg1:bP_ (G.sv q) g=1:=by rw [hsv];simp [bP_]
 have hgF:G.φ q g≠0:=by rw [hφ,hg1];omega
 have hone:=hM.one q _ g hq0
 have hψg:ψ g=0:=by rw [hφ,hg1] at hone;omega
 have hφig:φi g=0:=Classical.byContradiction fun h=>k4 g h ⟨q,_,hq,hgF⟩
 refine bm_.skip (eI_ ht ho hva e hlen (hall.one h1) hcur (by omega)) ?_
 have hcl:cur.toList.length=c*t.width:=by simpa using hcs
 have hv':((cur.toList.take (i*t.width+off)++us++cur.toList.drop (i*t.width+off+us.length)).take (xs.length*t.width))=us0++(vs0.take off++us++vs0.drop (off+us.length))++ws0:=by
  rw [ne_ _ _ _ _ (by omega) (by omega),htake,hvals]
  have a1:(us0++vs0++ws0).take (i*t.width+off)=us0++vs0.take off:=by
   rw [List.append_assoc,List.take_append,List.take_of_length_le (by omega),hl1,show i*t.width+off - i*t.width=off by omega,List.take_append,show off - vs0.length=0 by omega];simp
  have a2:(us0++vs0++ws0).drop (i*t.width+off+us.length)=vs0.drop (off+us.length)++ws0:=by
   rw [List.append_assoc,List.drop_append,List.drop_eq_nil_of_le (by omega),hl1,List.nil_append,List.drop_append,show i*t.width+off+us.length - i*t.width=off+us.length by omega,show off+us.length - vs0.length=0 by omega];simp
  rw [a1,a2];simp [List.append_assoc]
 have hw0:(enc .v t (xs.getD i (El.dflt t))).length=t.width:=aq_.len _ _ _
 have hwm:(enc m.sub t (xs.getD i (El.dflt t))).length=t.width:=aq_.len _ _ _
 obtain ⟨vA,vR,ψA,ψR,eA,mA,mR,sA⟩:=RL.split (l:=(enc m.sub t (xs.getD i (El.dflt t))).take off) (l':=(enc m.sub t (xs.getD i (El.dflt t))).drop off) (by rw [List.take_append_drop];exact j2)
 have mR':RL E w (Fof x G) (((enc m.sub t (xs.getD i (El.dflt t))).drop off).take cs.length++((enc m.sub t (xs.getD i (El.dflt t))).drop off).drop cs.length) vR ψR:=by rw [List.take_append_drop];exact mR
 obtain ⟨vB,vC,ψB,ψC,eC,mB,mC,sC⟩:=RL.split mR'
 have lA:vA.length=off:=by rw [←mA.length,List.length_take];omega
 have lB:vB.length=us.length:=by rw [←mB.length,List.length_take,List.length_drop];omega
 have eV:vs0.take off++us++vs0.drop (off+us.length)=vA++us++vC:=by
  subst eC;subst eA
  rw [←lA,List.take_left,←lB,List.drop_length_add_append,List.drop_left]
 have hmid:RL E w (Fof x G) ((enc m.sub t (xs.getD i (El.dflt t))).take off++cs++((enc m.sub t (xs.getD i (El.dflt t))).drop off).drop cs.length) (vA++us++vC) (fun b=>ψA b+φi b+ψC b) :=
  (mA.append k1 (fun b=>rfl)).append mC (fun b=>rfl)
 have hsims:∀ m',sims m' ((enc m.sub t (xs.getD i (El.dflt t))).take off++cs++((enc m.sub t (xs.getD i (El.dflt t))).drop off).drop cs.length) (enc m' t y):=by
  intro m'
  have h5:=aq_.dec m' t _ y hd
  rw [il_ _ _ _ (by omega)] at h5
  rw [←k5_] at h5 ⊢
  have e6:(enc .v t (xs.getD i (El.dflt t))).map AV.asView=(enc m.sub t (xs.getD i (El.dflt t))).map AV.asView:=by rw [aq_.view,aq_.view]
  simp only [List.map_append,List.map_take,List.map_drop,List.drop_drop] at h5 ⊢
  rw [e6] at h5
  exact h5
 have hgo:∀ b,b≠g→(w.setRow g (cur.toList.take (i*t.width+off)++us++cur.toList.drop (i*t.width+off+us.length)).toArray).heap[b]?=w.heap[b]?:=fun b hb=>setRow_other w _ _ _ hb
 generalize hA:(cur.toList.take (i*t.width+off)++us++cur.toList.drop (i*t.width+off+us.length)).toArray=A at hgo hv' ⊢
 have hA':A.toList.take (xs.length*t.width)=us0++(vA++us++vC)++ws0:=by rw [←hA,←eV];exact hv'
 have hAs:A.size=c*t.width:=by rw [←hA];simp;omega
 have hvl:=how.1
 rw [hvals] at hvl
 have hnl:(us0++(vA++us++vC)++ws0).length=xs.length*t.width:=by
  have e1:(vA++us++vC).length=vs0.length:=by
   have:=congrArg List.length eC
   have:=congrArg List.length eA
   simp only [List.length_append] at *
   omega
  simp only [List.length_append] at hvl e1 ⊢
  omega
 have hown':(w.setRow g A).ownsRow 0 (E.eid t) t.width (G.sv q) (xs.set i y).length (us0++(vA++us++vC)++ws0):=by
  refine ⟨by rw [List.length_set];exact hnl,.inr ⟨g,c,A,by rw [List.length_set,hsv,hn],Nat.zero_le _,setRow_heap w _ _ _ _ _ hcur,by rw [List.length_set];exact hcap,hcm,hAs,by rw [List.length_set];exact hA'⟩⟩
 have hown1:∀ b,bP_ (G.sv q) b=0→b≠g:=fun b hb e=>by rw [e,hg1] at hb;omega
 have hqF:∀ b,ψ b≠0→bP_ (G.sv q) b=0:=fun b hb=>by have:=hM.one q _ b hq0;rw [hφ] at this;omega
 have hsep:∀ b r' blk,G.φ q b≠0→x1.h r'=some blk→r'≠q→G.φ r' b=0:=fun b r' blk hb hr hne=>Classical.byContradiction fun h0=>hne (hM.sep r' q _ _ b (s1.1 _ _ hr) hq0 h0 hb)
 have finish:∀ ψ',(∀ b,ψ' b≤φ₁ b+(ψA b+φi b+ψC b)+φ₃ b)→(∀ ev:Evo x w G (x1.blk q (some (.arr (m.meet ok) t (st+1) (xs.set i y)))) (w.setRow g A) (G.put q (G.sv q) (us0++(vA++us++vC)++ws0) (fun b=>bP_ (G.sv q) b+ψ' b) (G.g q)),
   RL E (w.setRow g A) (Fof (x1.blk q (some (.arr (m.meet ok) t (st+1) (xs.set i y)))) (G.put q (G.sv q) (us0++(vA++us++vC)++ws0) (fun b=>bP_ (G.sv q) b+ψ' b) (G.g q))) (aV_ (m.meet ok).sub t (xs.set i y)) (us0++(vA++us++vC)++ws0) ψ')→Goes E κ r x w G undef (w.setRow g A):=by
  intro ψ' hle hrl'
  have hψ2:∀ b,ψ' b≠0→ψ b≠0∨φi b≠0:=fun b hb=>by
   have h1:=hle b;have h2:=hψ b;have h3:=sA b;have h4:=sC b
   omega
  have ev:=hM.turn s1 hq (w':=w.setRow g A) (m':=m.meet ok) (st':=st+1) (xs':=xs.set i y) (vals:=us0++(vA++us++vC)++ws0) (φ:=fun b=>bP_ (G.sv q) b+ψ' b) (by simp) (by omega) (fun h=>by omega) rfl rfl rfl (by simp)
   (fun b hb=>hgo b (hown1 b hb)) (fun b hb => ?_) (fun b => ?_) (fun ev => ?_)
  · exact ⟨_,_,.tu [],hk,ev.1,ev.2,.tu [] [] trivial,bR_⟩
  · have hb:bP_ (G.sv q) b+ψ' b≠0:=hb
    by_cases h0:φi b=0
    · have h6:G.φ q b≠0:=by
       rw [hφ]
       by_cases h7:ψ' b=0
       · omega
       · have:=hψ2 b h7;omega
      exact ⟨⟨q,_,hq0,h6⟩,fun r' blk hr hne=>hsep b r' blk h6 hr hne⟩
    · obtain ⟨q',blk',e1,_,e3⟩:=k5 b h0
      exact ⟨⟨q',blk',e1,e3⟩,fun r' blk hr hne=>Classical.byContradiction fun h8=>k4 b h0 ⟨r',blk,hr,h8⟩⟩
  · show bP_ (G.sv q) b+ψ' b≤1
    have h2:=hM.one q _ b hq0
    rw [hφ] at h2
    have h3:=hle b;have h4:=hψ b;have h5:=sA b;have h6:=sC b;have h7:=k3 b
    by_cases h0:φi b=0
    · omega
    · have:G.φ q b=0:=Classical.byContradiction fun h8=>k4 b h0 ⟨q,_,hq,h8⟩
      rw [hφ] at this
      omega
  · refine ⟨M.meet_ne hm ok,?_,ψ',?_,fun b => ?_⟩
    · simp only [av_.put,if_true];exact hown'
    · have:=hrl' ev
      simp only [av_.put,if_true]
      simp only [av_.put] at this
      exact this
    · simp only [av_.put,if_true]
 rcases M.meet_sub hm ok with ⟨rfl,rfl,hmm⟩|hmv
 ·
  refine finish (fun b=>φ₁ b+(ψA b+φi b+ψC b)+φ₃ b) (fun b=>Nat.le_refl _) fun ev => ?_
  have hy:RL E w (Fof x G) (enc .d t y) (vA++us++vC) (fun b=>ψA b+φi b+ψC b):=by
   refine hmid.sim_d (hsims .d) ?_
   simp only [List.all_append,Bool.and_eq_true]
   have hall2:=okD_coded t (xs.getD i (El.dflt t))
   rw [List.all_eq_true] at hall2
   refine ⟨⟨?_,k2 rfl⟩,?_⟩
   · rw [List.all_eq_true];exact fun a ha=>hall2 a (List.mem_of_mem_take ha)
   · rw [List.all_eq_true];exact fun a ha=>hall2 a (List.mem_of_mem_drop (List.mem_of_mem_drop ha))
  have hrow:RL E w (Fof x G) (aV_ .d t (xs.set i y)) (us0++(vA++us++vC)++ws0) (fun b=>φ₁ b+(ψA b+φi b+ψC b)+φ₃ b):=by
   rw [fx_ .d t xs i hlt y]
   exact (j1.append hy (fun b=>rfl)).append j3 (fun b=>rfl)
  rw [hmm]
  refine hrow.evolve (by rw [hmm] at ev;exact ev) fun b hb=>⟨hgo b ?_,q,_,a3_ _ _ _,?_⟩
  · intro e6
    subst e6
    have h4:=hψ b;have h5:=sA b;have h6:=sC b
    omega
  · simp only [av_.put,if_true];omega
 · refine finish (fun _=>0) (fun b=>Nat.zero_le _) fun ev => ?_
   rw [hmv]
   have hF'q:∀ b,Fof (x1.blk q (some (.arr (m.meet ok) t (st+1) (xs.set i y)))) (G.put q (G.sv q) (us0++(vA++us++vC)++ws0) (fun b=>bP_ (G.sv q) b+0) (G.g q)) b→bP_ (G.sv q) b≠0∨∃ r' blk,r'≠q∧x1.h r'=some blk∧G.φ r' b≠0:=by
    intro b ⟨r',blk,e1,e2⟩
    by_cases e:r'=q
    · subst e
      simp only [av_.put,if_true,Nat.add_zero] at e2
      exact .inl e2
    · simp only [av_.put,if_neg e] at e2
      exact .inr ⟨r',blk,e,by simpa only [X.blk,a6_ _ _ _ e] using e1,e2⟩
   have hF'g:Fof (x1.blk q (some (.arr (m.meet ok) t (st+1) (xs.set i y)))) (G.put q (G.sv q) (us0++(vA++us++vC)++ws0) (fun b=>bP_ (G.sv q) b+0) (G.g q)) g:=⟨q,_,a3_ _ _ _,by simp only [av_.put,if_true];omega⟩
   have hold:∀ b,ψ b≠0→¬ Fof (x1.blk q (some (.arr (m.meet ok) t (st+1) (xs.set i y)))) (G.put q (G.sv q) (us0++(vA++us++vC)++ws0) (fun b=>bP_ (G.sv q) b+0) (G.g q)) b:=by
    intro b hb hF
    rcases hF'q b hF with h|⟨r',blk,e1,e2,e3⟩
    · exact h (hqF b hb)
    · exact e3 (hsep b r' blk (by rw [hφ];omega) e2 e1)
   have hnew:∀ b,φi b≠0→¬ Fof (x1.blk q (some (.arr (m.meet ok) t (st+1) (xs.set i y)))) (G.put q (G.sv q) (us0++(vA++us++vC)++ws0) (fun b=>bP_ (G.sv q) b+0) (G.g q)) b:=by
    intro b hb hF
    rcases hF'q b hF with h|⟨r',blk,e1,e2,e3⟩
    · exact k4 b hb ⟨q,_,hq,by rw [hφ];omega⟩
    · exact k4 b hb ⟨r',blk,e2,e3⟩
   have hlow:∀ b,b<w.heap.size→¬ Fof x G b→¬ Fof (x1.blk q (some (.arr (m.meet ok) t (st+1) (xs.set i y)))) (G.put q (G.sv q) (us0++(vA++us++vC)++ws0) (fun b=>bP_ (G.sv q) b+0) (G.g q)) b:=fun b hb hF hF'=>hF (ev.fresh b hb hF')
   have r1:=j1.seen (fun b hb=>hold b (by have:=hψ b;omega)) hlow
   have r3:=j3.seen (fun b hb=>hold b (by have:=hψ b;omega)) hlow
   have r2:=hmid.sim_v (hsims .v) (fun b hb=>by
    have h5:=hψ b;have h6:=sA b;have h7:=sC b
    by_cases h0:φi b=0
    · exact hold b (by omega)
    · exact hnew b h0) hlow
   rw [dL_] at r1 r3
   have hrow:=(r1.append r2 (ψ:=fun _=>0) (fun b=>rfl)).append r3 (ψ:=fun _=>0) (fun b=>rfl)
   rw [←fx_ .v t xs i hlt y] at hrow
   exact hrow.frame (by simp) (fun b hb=>absurd rfl hb) fun b hb hF=>⟨hgo b fun e6=>hF (e6 ▸ hF'g),hF⟩
end
end Go.Pi
end
section
namespace Go.Pi
variable [ao_]
open ao_
variable {ω:Type}
variable {E:Env} {x:X} {w w':World} {G:av_} {κ:X→AV→Option ω} {r:ω} {o:Oper} {α:Operand→Value}
omit [ao_] in
theorem jX_:∀ (cs:List AV) (x1 x2:X) (cs':List AV) (ok:Bool),bc_ x1 cs=some (x2,cs',ok)→cs.all AV.one=true
 |[],_,_,_,_,_=>rfl
 |c::cs,x1,x2,cs',ok,h=>by
  have key:∀ {x1:X} {f:X→List AV→Bool→X × List AV × Bool},(match bc_ x1 cs with|some (x',l',ok)=>some (f x' l' ok)|none=>none)=some (x2,cs',ok)→cs.all AV.one=true:=by
   intro x1 f h
   cases hi:bc_ x1 cs with
   |none=>rw [hi] at h;cases h
   |some p=>exact jX_ cs x1 p.1 p.2.1 p.2.2 hi
  rw [List.all_cons,Bool.and_eq_true]
  cases c<;>simp only [bc_] at h<;>(try (cases h;done))
  case i=>exact ⟨rfl,key h⟩
  case b=>exact ⟨rfl,key h⟩
  case s=>exact ⟨rfl,key h⟩
  case nils=>exact ⟨rfl,key h⟩
  case sl m t xs=>
   cases m<;>simp only at h<;>(try (cases h;done))
   exact ⟨rfl,key (f:=fun x' l' _=>(x',.sl .v t xs::l',false)) h⟩
  case rt q=>
   refine ⟨rfl,?_⟩
   cases hq:x1.h q with
   |none=>rw [hq] at h;cases h
   |some blk=>
    rw [hq] at h
    cases blk with
    |box=>cases h
    |ext=>cases h
    |arr m t st xs=>exact key h
omit [ao_] in
theorem fp_ {m:M}:∀ {l c l' c':List AV},sims m l c→sims m l' c'→sims m (l++l') (c++c')
 |[],[],_,_,_,h=>h
 |a::l,b::c,_,_,h,h'=>⟨h.1,fp_ h.2 h'⟩
 |[],_::_,_,_,h,_=>h.elim
 |_::_,[],_,_,h,_=>h.elim
omit [ao_] in
theorem ep_ {m:M}:∀ {l c:List AV},sims m l c→l.length=c.length
 |[],[],_=>rfl
 |a::l,b::c,h=>by simp [ep_ h.2]
 |[],_::_,h=>h.elim
 |_::_,[],h=>h.elim
theorem jI_ [aq_] (hM:Mem E x w G) (t:TC):∀ (vs:List AV) (Vs:List Value) (x1:X),Sub x1 x→AllF (RT E w x G) vs Vs→∀ x2 ys ok,eR_ t x1 vs=some (x2,ys,ok) →
  Sub x2 x1∧∃ L φ,RL E w (Fof x G) L (Vs.flatMap fun v=>v.cells.toList) φ∧(ok=true→L.all AV.okD=true)∧(∀ b,φ b≤1)∧(∀ b,φ b≠0→¬ Fof x2 G b) ∧
   (∀ b,φ b≠0→∃ q blk,x1.h q=some blk∧x2.h q=none∧G.φ q b≠0)∧(∀ m,sims m L (aV_ m t ys))∧(∀ V ∈ Vs,V.cells.size=t.width)∧ys.length=vs.length
 |[],[],x1,hS,_,x2,ys,ok,h=>by
  simp only [eR_,Option.some.injEq,Prod.mk.injEq] at h
  obtain ⟨rfl,rfl,rfl⟩:=h
  exact ⟨Sub.refl _,[],fun _=>0,.nil _ fun _=>rfl,fun _=>rfl,fun _=>Nat.zero_le _,(fun b hb=>absurd rfl hb),(fun b hb=>absurd rfl hb),(fun _=>trivial),(fun V hV=>absurd hV (List.not_mem_nil)),rfl⟩
 |v::vs,V::Vs,x1,hS,⟨hv,hvs⟩,x2,ys,ok,h=>by
  simp only [eR_] at h
  cases hi:bc_ x1 v.cells with
  |none=>rw [hi] at h;cases h
  |some p=>
   obtain ⟨x3,cs,ok1⟩:=p
   rw [hi] at h
   simp only at h
   cases hd:dec t cs with
   |none=>rw [hd] at h;cases h
   |some y=>
    rw [hd] at h
    simp only at h
    cases hr:eR_ t x3 vs with
    |none=>rw [hr] at h;cases h
    |some p=>
     obtain ⟨x4,ys',ok2⟩:=p
     rw [hr] at h
     simp only [Option.some.injEq,Prod.mk.injEq] at h
     obtain ⟨rfl,rfl,rfl⟩:=h
     obtain ⟨us,eus,hall⟩:=hv.cells (jX_ _ _ _ _ _ hi)
     obtain ⟨s1,φ,k1,k2,k3,k4,k5⟩:=fT_ hM (Sub.refl x) v.cells x1 hS us _ _ _ hall hi
     obtain ⟨s2,L,ψ,j1,j2,j3,j4,j5,j6,j7,j8⟩:=jI_ hM t vs Vs x3 (s1.trans hS) hvs _ _ _ hr
     have dead:∀ q blk,x1.h q=some blk→x3.h q=none→x4.h q=none:=fun q blk h1 h2=>by
      cases e:x4.h q with
      |none=>rfl
      |some b=>rw [s2.1 q b e] at h2;cases h2
     refine ⟨s2.trans s1,cs++L,fun b=>φ b+ψ b,?_,?_,?_,?_,?_,?_,?_,by simp [j8]⟩
     · rw [List.flatMap_cons,eus]
       exact k1.append j1 (fun b=>rfl)
     · intro h
       rw [Bool.and_eq_true] at h
       rw [List.all_append,k2 h.1,j2 h.2];rfl
     · intro b
       show φ b+ψ b≤1
       have h1:=k3 b
       have h2:=j3 b
       by_cases h0:φ b=0
       · omega
       · by_cases h3:ψ b=0
         · omega
         · obtain ⟨q,blk,e1,e2,e3⟩:=j5 b h3
           exact absurd ⟨q,blk,e1,e3⟩ (k4 b h0)
     · intro b hb hF
       have hb:φ b+ψ b≠0:=hb
       by_cases h0:φ b=0
       · exact j4 b (by omega) hF
       · exact k4 b h0 (s2.fof hF)
     · intro b hb
       have hb:φ b+ψ b≠0:=hb
       by_cases h0:φ b=0
       · obtain ⟨q,blk,e1,e2,e3⟩:=j5 b (by omega)
         exact ⟨q,blk,s1.1 _ _ e1,e2,e3⟩
       · obtain ⟨q,blk,e1,e2,e3⟩:=k5 b h0
         exact ⟨q,blk,e1,dead q blk e1 e2,e3⟩
     · intro m
       have:aV_ m t (y::ys')=enc m t y++aV_ m t ys':=rfl
       rw [this]
       exact fp_ (aq_.dec m t cs y hd) (j6 m)
     · intro U hU
       rcases List.mem_cons.1 hU with rfl|hU
       · have h1:=ep_ (aq_.dec .v t cs y hd)
         have h2:=k1.length
         rw [aq_.len] at h1
         rw [eus];simp;omega
       · exact j7 U hU
 |[],_::_,_,_,h,_,_,_,_=>h.elim
 |_::_,[],_,_,h,_,_,_,_=>h.elim
theorem Goes.arr [aq_] (hM:Mem E x w G) {x1:X} (hS:Sub x1 x) {q} (hq:x1.u q=false) (hw:Grew w w') {te:TC} {xs:List (El te)} {sv vals L φ ok} (hown:w'.ownsRow 0 (E.eid te) te.width sv xs.length vals)
  (hfresh:∀ b,bP_ sv b≠0→w.heap.size≤b∧b<w'.heap.size) (hL:RL E w (Fof x G) L vals φ) (hok:ok=true→L.all AV.okD=true) (h1:∀ b,φ b≤1) (hout:∀ b,φ b≠0→¬ Fof x1 G b)
  (hs:∀ m,sims m L (aV_ m te xs)) (hk:κ (x1.add q (.arr (M.meet .d ok) te 0 xs)) (.rt q)=some r):Goes E κ r x w G sv w':=by
 have hqx:x.u q=false:=by rw [←hS.2];exact hq
 have hlow:∀ b,φ b≠0→Fof x G b∧b<w.heap.size:=hL.low
 have hone1:∀ b,bP_ sv b≤1:=fun b=>by
  unfold bP_;split
  · split<;>omega
  · omega
 have fin:∀ φ',(∀ b,φ' b≤φ b)→(∀ ev:Evo x w G (x1.add q (.arr (M.meet .d ok) te 0 xs)) w' (G.put q sv vals (fun b=>bP_ sv b+φ' b) 0),RL E w' (Fof (x1.add q (.arr (M.meet .d ok) te 0 xs)) (G.put q sv vals (fun b=>bP_ sv b+φ' b) 0)) (aV_ (M.meet .d ok).sub te xs) vals φ') →
   Goes E κ r x w G sv w':=by
  intro φ' hle hrl
  have hφ:∀ b,bP_ sv b+φ' b≠0→b<w.heap.size→Fof x G b∧¬ Fof x1 G b:=fun b hb hlt=>by
   have h3:=hle b
   have h2:φ b≠0:=by
    by_cases h0:bP_ sv b=0
    · omega
    · exact absurd (hfresh b h0).1 (by omega)
   exact ⟨(hlow b h2).1,hout b h2⟩
  have ev:=Evo.add hS hqx hw (blk:=.arr (M.meet .d ok) te 0 xs) (sv:=sv) (vals:=vals) (φ:=fun b=>bP_ sv b+φ' b) (g:=0) (fun b h1 h2=>(hφ b h1 h2).1)
  refine ⟨_,_,_,hk,ev,hM.add hS hqx hw hφ (fun b => ?_) (fun b hb => ?_) ?_,?_,?_⟩
  · show bP_ sv b+φ' b≤1
    have h3:=hle b;have h4:=h1 b;have h5:=hone1 b
    by_cases h0:bP_ sv b=0
    · omega
    · by_cases h6:φ b=0
      · omega
      · exact absurd (hlow b h6).2 (by have:=(hfresh b h0).1;omega)
  · have hb:bP_ sv b+φ' b≠0:=hb
    have h3:=hle b
    by_cases h0:bP_ sv b=0
    · exact Nat.lt_of_lt_of_le (hlow b (by omega)).2 hw.size
    · exact (hfresh b h0).2
  · refine ⟨M.meet_ne (by intro h;cases h) ok,?_,φ',?_,fun b => ?_⟩
    · simp only [av_.put,if_true];exact hown
    · have:=hrl ev
      simp only [av_.put,if_true] at this ⊢
      exact this
    · simp only [av_.put,if_true]
  · refine .flat _ _ (.inl ⟨?_,fun m t st ys _ => ?_⟩)
    · rcases hown.2 with ⟨rfl,_⟩|⟨_,_,_,rfl,_⟩<;>rfl
    · simp only [av_.put,if_true]
  · intro z hz
    simp only [AV.refsT,AV.refsD,AV.refs,List.mem_singleton] at hz
    subst hz
    exact a3_ _ _ _
 cases ok with
 |true=>
  refine fin φ (fun b=>Nat.le_refl _) fun ev => ?_
  refine (hL.sim_d (hs .d) (hok rfl)).evolve ev fun b hb=>⟨hw.heap b (hlow b hb).2,q,_,a3_ _ _ _,?_⟩
  simp only [av_.put,if_true];omega
 |false=>
  refine fin (fun _=>0) (fun b=>Nat.zero_le _) fun ev => ?_
  have hn:∀ b,φ b≠0→¬ Fof (x1.add q (.arr (M.meet .d false) te 0 xs)) (G.put q sv vals (fun b=>bP_ sv b+0) 0) b:=by
   intro b hb ⟨r',blk,e1,e2⟩
   by_cases e:r'=q
   · subst e
     simp only [av_.put,if_true,Nat.add_zero] at e2
     have:=(hfresh b e2).1
     have:=(hlow b hb).2
     omega
   · simp only [av_.put,if_neg e] at e2
     exact hout b hb ⟨r',blk,by simpa only [X.add,a6_ _ _ _ e] using e1,e2⟩
  have r1:=hL.sim_v (hs .v) hn fun b hb hF hF'=>hF (ev.fresh b hb hF')
  exact r1.frame hw.size (fun b hb=>absurd rfl hb) fun b hb hF=>⟨hw.heap b hb,hF⟩
omit [ao_] in
theorem scl_okD:∀ {l us},AllF scl l us→l.all AV.okD=true
 |[],[],_=>rfl
 |a::l,u::us,h=>by
  rw [List.all_cons,scl_okD h.2,Bool.and_true]
  have:=h.1
  cases a<;>first|rfl|exact this.elim
 |[],_::_,h=>h.elim
 |_::_,[],h=>h.elim
theorem RL.of_scl {F:Nat→Prop}:∀ {l us},AllF scl l us→RL E w F l us (fun _=>0)
 |[],[],_=>.nil _ fun _=>rfl
 |a::l,u::us,h=>.scal _ _ _ _ _ h.1 (RL.of_scl h.2)
 |[],_::_,h=>h.elim
 |_::_,[],h=>h.elim
omit [ao_] in
theorem gV_ (w:World) (obj:Obj) (n c:Nat):∀ b,bP_ (.slice (some ⟨w.heap.size,0,none⟩) n c) b≠0→w.heap.size≤b∧b<(w.alloc obj).heap.size:=by
 intro b hb
 have e:w.heap.size=b:=by
  simp only [bP_] at hb
  exact Classical.byContradiction fun h=>hb (if_neg h)
 subst e
 simp
omit [ao_] in
theorem m3_:∀ (k:Nat) (l:List (Nat × Value)),seqB k (l.map fun p=>p.1)=true→l=((l.map fun p=>p.2).zipIdx k).map fun x=>(x.2,x.1)
 |k,[],_=>rfl
 |k,(i,v)::l,h=>by
  simp only [List.map_cons,seqB,Bool.and_eq_true] at h
  obtain rfl:=Nat.eq_of_beq_eq_true h.1
  simp only [List.map_cons,List.zipIdx_cons]
  rw [←m3_ (i+1) l h.2]
section
variable (hM:Mem E x w G)
include hM
theorem kH_ [aq_] {T n parts te q} (hT:E.P.underlying T=some (.slice (E.eid te))) (tc:TCok E te) (ho:o.op = .buildSlice T n parts) {vs:List AV} (hv:AllF (RT E w x G) vs (parts.toList.map fun p=>α p.2))
  (hn:n=parts.toList.length) (hseq:seqB 0 (parts.toList.map fun p=>p.1)=true) (hsm:n*te.width≤16777216) {x1 ys ok} (hr:eR_ te x vs=some (x1,ys,ok))
  (h:x1.new q (.arr (M.meet .d ok) te 0 ys) (fun x=>κ x (.rt q))=some r):bm_ E o α κ r x w G:=by
 unfold X.new at h
 cases hq:x1.u q with
 |true=>rw [hq] at h;cases h
 |false=>
  rw [hq] at h
  obtain ⟨s1,L,φ,k1,k2,k3,k4,k5,k6,k7,k8⟩:=jI_ hM te vs _ x (Sub.refl x) hv _ _ _ hr
  obtain ⟨i,z,zs,zc,hi,hz,hsize,hbytes,hzs,hall,hone,hsims⟩:=tc.info
  have hpos:0<te.width:=aq_.pos te
  have hlen:ys.length=n:=by rw [k8,hv.length,List.length_map,hn]
  have hcl:((parts.toList.map fun p=>α p.2).flatMap fun v=>v.cells.toList).length=n*te.width:=by
   rw [←k1.length,ep_ (k6 .v),cN_,hlen]
  have hrun:(Instr.buildSlice T n (parts.map fun (i,x)=>(i,α x))).run E.P w = .ok (.slice (some ⟨w.heap.size,0,none⟩) n n) (w.alloc (.cells ((parts.toList.map fun p=>α p.2).flatMap fun v=>v.cells.toList).toArray (E.eid te))):=by
   by_cases h0:n=0
   · have e:parts = #[]:=by
      apply Array.toList_inj.1
      exact List.eq_nil_of_length_eq_zero (by omega)
     subst e
     subst h0
     simp [Instr.buildSlice,run_underlying hT,sizeOf,typeInfo,hi,Instr.fill,newRow]
     congr 2
     apply Array.toList_inj.1
     simp
   · refine run_buildSlice w T (E.eid te) n _ _ i z hT hi hz (by rw [hsize];omega) (by rw [hsize];exact Nat.mul_ne_zero h0 (by omega)) ?_
     have e1:(parts.map fun (i,x)=>(i,α x)).toList=((parts.toList.map fun p=>α p.2).zipIdx 0).map fun x=>(x.2,x.1):=by
      have:=m3_ 0 (parts.toList.map fun p=>(p.1,α p.2)) (by rw [List.map_map];exact hseq)
      rw [List.map_map] at this
      have h2:((fun p=>p.2) ∘ fun (p:Nat × Operand)=>(p.1,α p.2))=fun p=>α p.2:=rfl
      rw [h2] at this
      simpa using this
     rw [e1,hsize]
     exact Great.fill_whole hpos _ _ k7 (by simp [hn])
  have hmax:n≤maxLen:=by
   have:n*1≤n*te.width:=Nat.mul_le_mul_left _ hpos
   simp only [maxLen];omega
  refine bm_.value (V:=.slice (some ⟨w.heap.size,0,none⟩) n n) (w':=w.alloc (.cells ((parts.toList.map fun p=>α p.2).flatMap fun v=>v.cells.toList).toArray (E.eid te))) (by simp [execOp,ho,hrun]) ?_
  refine Goes.arr hM s1 hq (Grew.alloc _ _) (te:=te) (xs:=ys) (vals:=(parts.toList.map fun p=>α p.2).flatMap fun v=>v.cells.toList) (L:=L) (φ:=φ) (ok:=ok) ?_ (gV_ w _ n n) k1 k2 k3 k4 k6 h
  rw [hlen]
  exact World.ownsRow_lit w _ n (Nat.zero_le _) hmax (by simpa using hcl)
theorem lA_ [aq_] {T l c te q k k' n} (hT:E.P.underlying T=some (.slice (E.eid te))) (tc:TCok E te) (ho:o.op = .makeSlice T l c) (hl:α l = .int k n) (hc:α c = .int k' n) (h0:0≤n) (hb:n*te.bytes≤140737488355328)
  (h:x.new q (.arr .d te 0 (List.replicate n.toNat (El.dflt te))) (fun x=>κ x (.rt q))=some r):bm_ E o α κ r x w G:=by
 unfold X.new at h
 cases hq:x.u q with
 |true=>rw [hq] at h;cases h
 |false=>
  rw [hq] at h
  obtain ⟨i,z,zs,zc,hi,hz,hsize,hbytes,hzs,hall,hone,hsims⟩:=tc.info
  have hpos:0<te.width:=aq_.pos te
  obtain ⟨m,rfl⟩:∃ m:Nat,n=m:=⟨n.toNat,by omega⟩
  simp only [Int.toNat_natCast] at h
  have hb':m*te.bytes≤140737488355328:=by
   have:((m*te.bytes:Nat):Int)≤140737488355328:=by rw [Int.natCast_mul];exact hb
   omega
  have hm1:m≤m*te.bytes:=Nat.le_mul_of_pos_right _ tc.pos
  have hzw:zs.length=te.width:=by rw [←hall.length,ep_ (hsims .v),aq_.len]
  have hr:=run_make (P:=E.P) w T (E.eid te) i z hT hi hz k k' m m (by omega) (Int.le_refl _) (by
   rw [hbytes]
   have:((te.bytes*m:Nat):Int)≤281474976710656:=by rw [Nat.mul_comm];omega
   rwa [Int.natCast_mul] at this) (by omega)
  simp only [Int.toNat_natCast] at hr
  have hcells:(madeCells z.cells (m*i.size)).toList=((List.replicate m z).flatMap fun v=>v.cells.toList):=by
   apply List.ext_getElem?
   intro j
   rw [Great.flat_get (s:=te.width) hpos _ (fun v hv=>by rw [(List.mem_replicate.1 hv).2,hzs];simpa using hzw),hsize]
   by_cases hj:j<m*te.width
   · have hd:j / te.width<m:=(Nat.div_lt_iff_lt_mul hpos).2 hj
     have hmod:j % te.width<zs.length:=by rw [hzw];exact Nat.mod_lt _ hpos
     simp [madeCells,hj,hd,hzs,hzw]
     have hmod':j % te.width<zs.length:=hmod
     simp [List.getElem?_eq_getElem hmod']
   · have hd:¬ j / te.width<m:=fun h=>hj ((Nat.div_lt_iff_lt_mul hpos).1 h)
     simp [madeCells,hj,hd]
  have rep:∀ n:Nat,RL E w (Fof x G) ((List.replicate n zc).flatMap id) ((List.replicate n z).flatMap fun v=>v.cells.toList) (fun _=>0)∧((List.replicate n zc).flatMap id).all AV.okD=true ∧
    ∀ m,sims m ((List.replicate n zc).flatMap id) (aV_ m te (List.replicate n (El.dflt te))):=by
   intro n
   induction n with
   |zero=>exact ⟨.nil _ fun _=>rfl,rfl,fun _=>trivial⟩
   |succ n ih=>
    obtain ⟨i1,i2,i3⟩:=ih
    simp only [List.replicate_succ,List.flatMap_cons,id]
    refine ⟨?_,?_,fun m => ?_⟩
    · rw [hzs];exact (RL.of_scl hall).append i1 (fun _=>rfl)
    · rw [List.all_append,i2,Bool.and_true]
      exact scl_okD hall
    · exact fp_ (hsims m) (i3 m)
  obtain ⟨j1,j2,j3⟩:=rep m
  refine bm_.value (V:=.slice (some ⟨w.heap.size,0,none⟩) m m) (w':=w.alloc (.cells (madeCells z.cells (m*i.size)) (E.eid te))) (by simp [execOp,ho,hl,hc,hr]) ?_
  refine Goes.arr hM (Sub.refl x) hq (Grew.alloc _ _) (te:=te) (xs:=List.replicate m (El.dflt te)) (vals:=(List.replicate m z).flatMap fun v=>v.cells.toList) (φ:=fun _=>0) (ok:=true) ?_ (gV_ w _ m m) j1 (fun _=>j2) (fun b=>Nat.zero_le _) (fun b hb=>absurd rfl hb) j3 h
  rw [←hcells,List.length_replicate]
  exact World.ownsRow_lit w _ m (Nat.zero_le _) (by simp only [maxLen];omega) (by rw [size_madeCells,hsize])
end
end Go.Pi
end
section
namespace Go.Pi
structure f3_ (w w':World) (C:Nat→Prop):Prop where
 os:w'.os=w.os
 tape:w'.tape=w.tape
 output:w'.output=w.output
 size:w.heap.size≤w'.heap.size
 heap:∀ b,b<w.heap.size→¬ C b→w'.heap[b]?=w.heap[b]?
variable [ao_]
open ao_
variable {E:Env} {x:X} {w w':World} {G:av_} {C:Nat→Prop}
omit [ao_] in
theorem Evo.addC {x1:X} (hS:Sub x1 x) {q} (hq:x.u q=false) (hw:f3_ w w' C) (hC:∀ b,C b→Fof x G b∧¬ Fof x1 G b) {blk sv vals φ g} (hφ:∀ b,φ b≠0→b<w.heap.size→Fof x G b) :
  Evo x w G (x1.add q blk) w' (G.put q sv vals φ g):=by
 refine ⟨hw.os,hw.tape,hw.output,hw.size,fun b hb h=>hw.heap b hb fun hc=>h (hC b hc).1,fun b hb hF => ?_,fun r hr => ?_,fun r blk' hu hr => ?_,fun r b hu hr => ?_⟩
 · obtain ⟨r,k,h1,h2⟩:=hF
   by_cases e:r=q
   · subst e
     simp only [av_.put,if_true] at h2
     exact hφ b h2 hb
   · simp only [av_.put,if_neg e] at h2
     simp only [X.add,a6_ _ _ _ e] at h1
     exact ⟨r,k,hS.1 _ _ h1,h2⟩
 · by_cases e:r=q
   · subst e;exact a3_ _ _ _
   · simp only [X.add,a6_ _ _ _ e,hS.2];exact hr
 · by_cases e:r=q
   · subst e;rw [hq] at hu;cases hu
   · simp only [X.add,a6_ _ _ _ e] at hr
     refine ⟨blk',hS.1 _ _ hr,Same.refl _,by simp only [av_.put,if_neg e],by simp only [av_.put,if_neg e],fun _ _ _ _ _ _ _ _ _=>by simp only [av_.put,if_neg e]⟩
 · by_cases e:r=q
   · subst e;rw [hq] at hu;cases hu
   · exact ⟨by simp only [av_.put,if_neg e],fun hb hlt=>hw.heap b hlt fun hc=>(hC b hc).2 ⟨r,_,by simpa only [X.add,a6_ _ _ _ e] using hr,hb⟩⟩
theorem Mem.addC (hM:Mem E x w G) {x1:X} (hS:Sub x1 x) {q} (hq:x.u q=false) (hw:f3_ w w' C) (hC:∀ b,C b→Fof x G b∧¬ Fof x1 G b) {blk sv vals φ g} (hφ:∀ b,φ b≠0→b<w.heap.size→Fof x G b∧¬ Fof x1 G b) (h1:∀ b,φ b≤1) (hlt:∀ b,φ b≠0→b<w'.heap.size)
  (hroot:gv_ E (x1.add q blk) w' (G.put q sv vals φ g) q blk):Mem E (x1.add q blk) w' (G.put q sv vals φ g):=by
 have ev:=Evo.addC hS hq hw hC (blk:=blk) (sv:=sv) (vals:=vals) (φ:=φ) (g:=g) fun b h2 h3=>(hφ b h2 h3).1
 have alive:∀ r blk',r≠q→(x1.add q blk).h r=some blk'→x1.h r=some blk':=fun r blk' e h=>by simpa only [X.add,a6_ _ _ _ e] using h
 refine hM.build ev C (fun b hb h=>hw.heap b hb h) (fun r blk' hr => ?_) (fun r r' b1 b2 b k1 k2 k3 k4 => ?_)
 · by_cases e:r=q
   · subst e
     have:blk=blk':=by simpa only [X.add,a3_,Option.some.injEq] using hr
     subst this
     exact .inr ⟨hroot,a3_ _ _ _,fun b=>by simp only [av_.put,if_true];exact ⟨h1 b,hlt b⟩⟩
   · exact .inl ⟨hS.1 _ _ (alive r _ e hr),by simp only [av_.put,if_neg e],by simp only [av_.put,if_neg e],by simp only [av_.put,if_neg e],fun b=>by simp only [av_.put,if_neg e],fun b hb hc=>(hC b hc).2 ⟨r,_,alive r _ e hr,hb⟩⟩
 · by_cases e:r=q
   · by_cases e':r'=q
     · rw [e,e']
     · exfalso
       subst e
       simp only [av_.put,if_true] at k3
       simp only [av_.put,if_neg e'] at k4
       have h5:=hM.low r' b2 b (hS.1 _ _ (alive r' _ e' k2)) k4
       exact (hφ b k3 h5).2 ⟨r',b2,alive r' _ e' k2,k4⟩
   · by_cases e':r'=q
     · exfalso
       subst e'
       simp only [av_.put,if_true] at k4
       simp only [av_.put,if_neg e] at k3
       have h5:=hM.low r b1 b (hS.1 _ _ (alive r _ e k1)) k3
       exact (hφ b k4 h5).2 ⟨r,b1,alive r _ e k1,k3⟩
     · simp only [av_.put,if_neg e] at k3
       simp only [av_.put,if_neg e'] at k4
       exact hM.sep r r' b1 b2 b (hS.1 _ _ (alive r _ e k1)) (hS.1 _ _ (alive r' _ e' k2)) k3 k4
omit [ao_] in
theorem ko_ (v:Value) (b:Nat):bP_ v b≤1:=by
 unfold bP_;split
 · split<;>omega
 · omega
variable {ω:Type} {κ:X→AV→Option ω} {r:ω} {o:Oper} {α:Operand→Value}
theorem Goes.arrC [aq_] (hM:Mem E x w G) {x1:X} (hS:Sub x1 x) {q} (hq:x1.u q=false) (hw:f3_ w w' C) (hC:∀ b,C b→Fof x G b∧¬ Fof x1 G b) {te:TC} {xs:List (El te)} {sv vals L φ ok} (hown:w'.ownsRow 0 (E.eid te) te.width sv xs.length vals)
  (hfresh:∀ b,bP_ sv b≠0→(w.heap.size≤b∨C b)∧b<w'.heap.size) (hL:RL E w (Fof x G) L vals φ) (hφC:∀ b,φ b≠0→¬ C b) (hok:ok=true→L.all AV.okD=true) (h1:∀ b,φ b≤1) (hout:∀ b,φ b≠0→¬ Fof x1 G b)
  (hs:∀ m,sims m L (aV_ m te xs)) (hk:κ (x1.add q (.arr (M.meet .d ok) te 0 xs)) (.rt q)=some r):Goes E κ r x w G sv w':=by
 have hqx:x.u q=false:=by rw [←hS.2];exact hq
 have hlow:∀ b,φ b≠0→Fof x G b∧b<w.heap.size:=hL.low
 have hno:∀ b,φ b≠0→bP_ sv b=0:=fun b hb=>Classical.byContradiction fun h=>by
  rcases (hfresh b h).1 with h2|h2
  · have:=(hlow b hb).2;omega
  · exact hφC b hb h2
 have fin:∀ φ',(∀ b,φ' b≤φ b)→(∀ ev:Evo x w G (x1.add q (.arr (M.meet .d ok) te 0 xs)) w' (G.put q sv vals (fun b=>bP_ sv b+φ' b) 0),RL E w' (Fof (x1.add q (.arr (M.meet .d ok) te 0 xs)) (G.put q sv vals (fun b=>bP_ sv b+φ' b) 0)) (aV_ (M.meet .d ok).sub te xs) vals φ') →
   Goes E κ r x w G sv w':=by
  intro φ' hle hrl
  have hφ:∀ b,bP_ sv b+φ' b≠0→b<w.heap.size→Fof x G b∧¬ Fof x1 G b:=fun b hb hlt=>by
   have h3:=hle b
   by_cases h0:bP_ sv b=0
   · have h2:φ b≠0:=by omega
     exact ⟨(hlow b h2).1,hout b h2⟩
   · rcases (hfresh b h0).1 with h2|h2
     · omega
     · exact hC b h2
  have ev:=Evo.addC hS hqx hw hC (blk:=.arr (M.meet .d ok) te 0 xs) (sv:=sv) (vals:=vals) (φ:=fun b=>bP_ sv b+φ' b) (g:=0) (fun b h1 h2=>(hφ b h1 h2).1)
  refine ⟨_,_,_,hk,ev,hM.addC hS hqx hw hC hφ (fun b => ?_) (fun b hb => ?_) ?_,?_,?_⟩
  · show bP_ sv b+φ' b≤1
    have h3:=hle b;have h4:=h1 b;have h5:=ko_ sv b
    by_cases h6:φ b=0
    · omega
    · have:=hno b h6;omega
  · have hb:bP_ sv b+φ' b≠0:=hb
    have h3:=hle b
    by_cases h0:bP_ sv b=0
    · exact Nat.lt_of_lt_of_le (hlow b (by omega)).2 hw.size
    · exact (hfresh b h0).2
  · refine ⟨M.meet_ne (by intro h;cases h) ok,?_,φ',?_,fun b => ?_⟩
    · simp only [av_.put,if_true];exact hown
    · have:=hrl ev
      simp only [av_.put,if_true] at this ⊢
      exact this
    · simp only [av_.put,if_true]
  · refine .flat _ _ (.inl ⟨?_,fun m t st ys _ => ?_⟩)
    · rcases hown.2 with ⟨rfl,_⟩|⟨_,_,_,rfl,_⟩<;>rfl
    · simp only [av_.put,if_true]
  · intro z hz
    simp only [AV.refsT,AV.refsD,AV.refs,List.mem_singleton] at hz
    subst hz
    exact a3_ _ _ _
 cases ok with
 |true=>
  refine fin φ (fun b=>Nat.le_refl _) fun ev => ?_
  refine (hL.sim_d (hs .d) (hok rfl)).evolve ev fun b hb=>⟨hw.heap b (hlow b hb).2 (hφC b hb),q,_,a3_ _ _ _,?_⟩
  simp only [av_.put,if_true];omega
 |false=>
  refine fin (fun _=>0) (fun b=>Nat.zero_le _) fun ev => ?_
  have hn:∀ b,φ b≠0→¬ Fof (x1.add q (.arr (M.meet .d false) te 0 xs)) (G.put q sv vals (fun b=>bP_ sv b+0) 0) b:=by
   intro b hb ⟨r',blk,e1,e2⟩
   by_cases e:r'=q
   · subst e
     simp only [av_.put,if_true,Nat.add_zero] at e2
     exact e2 (hno b hb)
   · simp only [av_.put,if_neg e] at e2
     exact hout b hb ⟨r',blk,by simpa only [X.add,a6_ _ _ _ e] using e1,e2⟩
  have r0:=(hL.frame (w':=w') (F':=fun b=>Fof x G b) hw.size (fun b hb=>⟨hw.heap b (hlow b hb).2 (hφC b hb),(hlow b hb).1⟩) fun b hb hF=>⟨hw.heap b hb fun hc=>hF (hC b hc).1,hF⟩)
  have r1:=hL.sim_v (hs .v) (F':=fun b=>Fof (x1.add q (.arr (M.meet .d false) te 0 xs)) (G.put q sv vals (fun b=>bP_ sv b+0) 0) b∨C b) (fun b hb h=>h.elim (hn b hb) (hφC b hb)) fun b hb hF h=>h.elim (fun h=>hF (ev.fresh b hb h)) fun h=>hF (hC b h).1
  exact r1.frame hw.size (fun b hb=>absurd rfl hb) fun b hb hF=>⟨hw.heap b hb fun h=>hF (.inr h),fun h=>hF (.inl h)⟩
omit [ao_] in
theorem k6_ {m m':M}:∀ (l c:List AV),l.map AV.asView=c.map AV.asView→(∀ a ∈ l,a.coded m)→(∀ a ∈ c,a.coded m')→sims m' l c
 |[],[],_,_,_=>trivial
 |a::l,b::c,h,h1,h2=>by
  simp only [List.map_cons,List.cons.injEq] at h
  refine ⟨?_,k6_ l c h.2 (fun a ha=>h1 a (List.mem_cons_of_mem _ ha)) fun a ha=>h2 a (List.mem_cons_of_mem _ ha)⟩
  have e:=h.1
  rcases h1 a (List.mem_cons_self ..) with ⟨k,n,rfl⟩|⟨q,rfl⟩|⟨s,rfl⟩|⟨t,xs,rfl⟩<;>rcases h2 b (List.mem_cons_self ..) with ⟨k',n',rfl⟩|⟨q',rfl⟩|⟨s',rfl⟩|⟨t',xs',rfl⟩ <;>
   simp only [AV.asView] at e<;>first|(cases e;rfl)|cases e
 |[],_::_,h,_,_=>by simp at h
 |_::_,[],h,_,_=>by simp at h
theorem dc_ [aq_] {m:M} {t:TC} {xs:List (El t)}:∀ a ∈ aV_ m t xs,a.coded m:=by
 intro a ha
 obtain ⟨y,_,h⟩:=List.mem_flatMap.1 ha
 exact aq_.cell _ _ _ a h
theorem fP_ [aq_] (m m':M) (t:TC) (xs:List (El t)):sims m' (aV_ m t xs) (aV_ m' t xs) :=
 k6_ _ _ (by rw [dL_,dL_]) dc_ dc_
theorem g8_ [aq_] {m:M} {t:TC} (ht:t.flat=true) {xs:List (El t)}:∀ a ∈ aV_ m t xs,(∃ k n,a = .i k n)∨(∃ q,a = .b q)∨∃ l,a = .s l:=by
 intro a ha
 have h1:a ∈ aV_ .d t xs:=by rw [fX_ ht (m':=m)];exact ha
 have h2:a ∈ aV_ .v t xs:=by rw [fX_ ht (m':=m)];exact ha
 rcases dc_ a h1 with h|h|h|⟨t',ys,rfl⟩
 · exact .inl h
 · exact .inr (.inl h)
 · exact .inr (.inr h)
 · rcases dc_ _ h2 with ⟨_,_,e⟩|⟨_,e⟩|⟨_,e⟩|⟨_,_,e⟩<;>cases e
theorem RL.flat0 {F:Nat→Prop} {l vs φ} (h:RL E w F l vs φ):(∀ a ∈ l,(∃ k n,a = .i k n)∨(∃ q,a = .b q)∨∃ l,a = .s l)→∀ b,φ b=0:=by
 induction h with
 |nil _ h0=>exact fun _=>h0
 |scal a v l vs φ _ _ ih=>exact fun hf=>ih fun a ha=>hf a (List.mem_cons_of_mem _ ha)
 |_=>intro hf;rcases hf _ (List.mem_cons_self ..) with ⟨_,_,e⟩|⟨_,e⟩|⟨_,e⟩<;>cases e
theorem RL.one {F:Nat→Prop} {l vs φ} (h:RL E w F l vs φ):(∀ a ∈ l,∃ m,a.coded m)→∀ u ∈ vs,u.oneCell'=true:=by
 induction h with
 |nil=>intro _ u hu;cases hu
 |scal a v l vs φ hs _ ih=>
  intro hc u hu
  rcases List.mem_cons.1 hu with rfl|hu
  · obtain ⟨m,hm⟩:=hc _ (List.mem_cons_self ..)
    rcases hm with ⟨_,_,rfl⟩|⟨_,rfl⟩|⟨_,rfl⟩|⟨_,_,rfl⟩
    · have:u=_:=hs;subst this;rfl
    · have:u=_:=hs;subst this;rfl
    · have:u=_:=hs;subst this;rfl
    · exact hs.elim
  · exact ih (fun a ha=>hc a (List.mem_cons_of_mem _ ha)) u hu
 |view t xs a n cap vals z l vs φ hn _ hz hb _ _ ih=>
  intro hc u hu
  rcases List.mem_cons.1 hu with rfl|hu
  · rfl
  · exact ih (fun a ha=>hc a (List.mem_cons_of_mem _ ha)) u hu
 |own m t xs v vals φ₁ l vs φ₂ φ hm how _ hF _ he _ ih=>
  intro hc u hu
  rcases List.mem_cons.1 hu with rfl|hu
  · rcases how.2 with ⟨rfl,_⟩|⟨_,_,_,rfl,_⟩<;>rfl
  · exact ih (fun a ha=>hc a (List.mem_cons_of_mem _ ha)) u hu
 |pc=>
  intro hc;obtain ⟨m,hm⟩:=hc _ (List.mem_cons_self ..)
  rcases hm with ⟨_,_,e⟩|⟨_,e⟩|⟨_,e⟩|⟨_,_,e⟩<;>cases e
 |bx=>
  intro hc;obtain ⟨m,hm⟩:=hc _ (List.mem_cons_self ..)
  rcases hm with ⟨_,_,e⟩|⟨_,e⟩|⟨_,e⟩|⟨_,_,e⟩<;>cases e
 |ag=>
  intro hc;obtain ⟨m,hm⟩:=hc _ (List.mem_cons_self ..)
  rcases hm with ⟨_,_,e⟩|⟨_,e⟩|⟨_,e⟩|⟨_,_,e⟩<;>cases e
 |tu=>
  intro hc;obtain ⟨m,hm⟩:=hc _ (List.mem_cons_self ..)
  rcases hm with ⟨_,_,e⟩|⟨_,e⟩|⟨_,e⟩|⟨_,_,e⟩<;>cases e
 |clo=>
  intro hc;obtain ⟨m,hm⟩:=hc _ (List.mem_cons_self ..)
  rcases hm with ⟨_,_,e⟩|⟨_,e⟩|⟨_,e⟩|⟨_,_,e⟩<;>cases e
end Go.Pi
end
section
namespace Go.Pi
variable [ao_]
open ao_
variable {E:Env} {x:X} {w w':World} {G:av_}
structure SrcOk (E:Env) (x:X) (w:World) (G:av_) (V:Value) (x1:X) (t:TC) (ys:List (El t)) (ok:Bool) (x0:X) (G0:av_) (L:List AV) (φ:Nat→Nat) (vals:List Value):Prop where
 evo:Evo x w G x0 w G0
 mem:Mem E x0 w G0
 sub:Sub x1 x0
 rl:RL E w (Fof x0 G0) L vals φ
 okD:ok=true→L.all AV.okD=true
 one:∀ b,φ b≤1
 out:∀ b,φ b≠0→¬ Fof x1 G0 b
 sims:∀ m,sims m L (aV_ m t ys)
 cell:∀ u ∈ vals,u.oneCell'=true
 val:(∃ a c,V = .slice (some a) ys.length c∧∀ j u,vals[j]?=some u→w.cell? (a.add j)=some u)∨(∃ c,V = .slice none 0 c∧ys=[])
theorem kK_ [aq_] {m:M} {t:TC} (ht:t.flat=true) {xs:List (El t)}:(aV_ m t xs).all AV.okD=true:=by
 rw [List.all_eq_true]
 intro a ha
 rcases g8_ ht a ha with ⟨_,_,rfl⟩|⟨_,rfl⟩|⟨_,rfl⟩<;>rfl
theorem nz_ [aq_] {t:TC} {xs:List (El t)}:(aV_ .d t xs).all AV.okD=true:=by
 rw [List.all_eq_true]
 intro a ha
 rcases dc_ a ha with ⟨_,_,rfl⟩|⟨_,rfl⟩|⟨_,rfl⟩|⟨_,_,rfl⟩<;>rfl
omit [ao_] in
theorem X.blk_same {x:X} {q b} (h:x.h q=some b):x.blk q (some b)=x:=by
 have:upd x.h q (some b)=x.h:=by
  funext r
  by_cases e:r=q
  · subst e;rw [a3_,h]
  · rw [a6_ _ _ _ e]
 unfold X.blk;rw [this]
omit [ao_] in
theorem own_val {E':TypeId} {size n:Nat} {v:Value} {xs:List Value} (h:w.ownsRow 0 E' size v n xs):(∃ a c,v = .slice (some a) n c∧∀ j u,xs[j]?=some u→w.cell? (a.add j)=some u)∨(v = .slice none 0 0∧n=0):=by
 rcases h.2 with ⟨rfl,h0⟩|⟨g,cap,cur,rfl,_⟩
 · exact .inr ⟨rfl,h0⟩
 · exact .inl ⟨_,cap,rfl,h.cells (g:=g) rfl⟩
theorem RL.rows_part [aq_] {F:Nat→Prop} {m:M} {t:TC} {xs:List (El t)} {vals φ} (h:RL E w F (aV_ m t xs) vals φ) (h0:∀ b,φ b=0) {lo hi:Nat} (h1:lo≤hi) (h2:hi≤xs.length) :
  RL E w F (aV_ m t ((xs.take hi).drop lo)) ((vals.drop (lo*t.width)).take ((hi - lo)*t.width)) (fun _=>0):=by
 have e:xs=(xs.take hi).take lo++((xs.take hi).drop lo++xs.drop hi):=by rw [←List.append_assoc,List.take_append_drop,List.take_append_drop]
 have h3:RL E w F (aV_ m t ((xs.take hi).take lo)++(aV_ m t ((xs.take hi).drop lo)++aV_ m t (xs.drop hi))) vals φ:=by
  rw [←bV_,←bV_,←e];exact h
 obtain ⟨us,us',φ₁,φ₂,rfl,k1,k2,e1⟩:=RL.split h3
 obtain ⟨vs,vs',φ₃,φ₄,rfl,k3,k4,e2⟩:=RL.split k2
 have l1:us.length=lo*t.width:=by rw [←k1.length,cN_,List.length_take,List.length_take];congr 1;omega
 have l2:vs.length=(hi - lo)*t.width:=by rw [←k3.length,cN_,List.length_drop,List.length_take];congr 1;omega
 rw [←l1,List.drop_left,←l2,List.take_left]
 exact k3.congr fun b=>by have:=h0 b;rw [e1,e2] at this;omega
theorem Mem.demote [aq_] (hM:Mem E x w G) {q m t st xs} (hq:x.h q=some (.arr m t st xs)) (b:Bool) (hb:b=true→m = .s∨True) :
  ∃ G',Evo x w G (x.blk q (some (.arr (m.meet b) t st xs))) w G'∧Mem E (x.blk q (some (.arr (m.meet b) t st xs))) w G'∧G'.sv=G.sv∧G'.vals=G.vals:=by
 obtain ⟨hm,how,ψ,hrl,hφ⟩:=hM.root q _ hq
 by_cases hc:m.meet b=m
 · rw [hc,X.blk_same hq]
   exact ⟨G,Evo.refl _ _ _,hM,rfl,rfl⟩
 · have hv:(m.meet b).sub = .v:=by
    rcases M.meet_sub hm b with ⟨rfl,rfl,h⟩|h
    · exact absurd h hc
    · exact h
   have hown:∀ b,bP_ (G.sv q) b≠0→G.φ q b≠0:=fun b hb=>by rw [hφ];omega
   have hsep:∀ b r' blk,G.φ q b≠0→x.h r'=some blk→r'≠q→G.φ r' b=0:=fun b r' blk hb hr hne=>Classical.byContradiction fun h0=>hne (hM.sep r' q _ _ b hr hq h0 hb)
   have key:=hM.turn (Sub.refl x) hq (w':=w) (m':=m.meet b) (st':=st) (xs':=xs) (vals:=G.vals q) (φ:=fun b=>bP_ (G.sv q) b) rfl (Nat.le_refl _) (fun _=>⟨rfl,rfl⟩) rfl rfl rfl rfl (fun _ _=>rfl)
    (fun b hb=>⟨⟨q,_,hq,hown b hb⟩,fun r' blk hr hne=>hsep b r' blk (hown b hb) hr hne⟩) (fun b=>ko_ _ _) (fun ev => ?_)
   · refine ⟨_,key.1,key.2,?_,?_⟩
     · funext r';simp only [av_.put];split
       · rename_i e;rw [e]
       · rfl
     · funext r';simp only [av_.put];split
       · rename_i e;rw [e]
       · rfl
   · refine ⟨M.meet_ne hm b,by simp only [av_.put,if_true];exact how,fun _=>0,?_,fun b=>by simp only [av_.put,if_true,Nat.add_zero]⟩
     rw [hv]
     have r1:=hrl.seen (F':=Fof (x.blk q (some (.arr (m.meet b) t st xs))) (G.put q (G.sv q) (G.vals q) (fun b=>bP_ (G.sv q) b) (G.g q))) (fun b hb hF => ?_) (fun b hb hF hF'=>hF (ev.fresh b hb hF'))
     · rw [dL_] at r1
       simp only [av_.put,if_true] at r1 ⊢
       exact r1
     · obtain ⟨r',blk,e1,e2⟩:=hF
       by_cases e:r'=q
       · subst e
         simp only [av_.put,if_true] at e2
         have:=hM.one _ _ b hq
         rw [hφ] at this;omega
       · simp only [av_.put,if_neg e] at e2
         exact e2 (hsep b r' blk (by rw [hφ];omega) (by simpa only [X.blk,a6_ _ _ _ e] using e1) e)
theorem src_sound [aq_] (hM:Mem E x w G) {y V} (hv:RT E w x G y V) {x1 t ys ok} (h:if_ x y=some (x1,⟨t,ys,ok⟩)) :
  ∃ x0 G0 L φ vals,SrcOk E x w G V x1 t ys ok x0 G0 L φ vals:=by
 cases y<;>simp only [if_] at h<;>(try (cases h;done))
 case sl m t' xs=>
  cases m<;>simp only at h<;>(try (cases h;done))
  simp only [Option.some.injEq,Prod.mk.injEq] at h
  obtain ⟨rfl,h⟩:=h
  cases h
  have hf:=hv.rf (by intro cs e;cases e) (by intro cs e;cases e) (by intro f cs e;cases e)
  cases hf with
  |scal _ _ _ _ _ hs _=>exact hs.elim
  |own _ _ _ _ _ _ _ _ _ _ hm=>exact absurd rfl hm
  |view _ _ a n cap vals z _ _ _ hn h1 hz hb _=>
   refine ⟨x,G,_,z,vals,⟨Evo.refl _ _ _,hM,Sub.refl _,h1,fun h=>kK_ h,fun b=>by rw [hz];omega,fun b hb=>absurd (hz b) hb,fun m=>fP_ _ _ _ _,h1.one fun a ha=>⟨.v,dc_ a ha⟩,?_⟩⟩
   by_cases h0:0<n
   · obtain ⟨b,o,rfl,hr,_⟩:=hb h0
     refine .inl ⟨_,cap,by rw [hn.1],fun j u hj => ?_⟩
     rw [Addr.add_mid];exact hr j u hj
   · have hn0:n=0:=by omega
     subst hn0
     have hys:ys=[]:=List.eq_nil_of_length_eq_zero hn.1.symm
     subst hys
     cases a with
     |none=>exact .inr ⟨cap,rfl,rfl⟩
     |some a=>
      have hvals:=h1.length
      refine .inl ⟨a,cap,rfl,fun j u hj => ?_⟩
      have:vals=[]:=List.eq_nil_of_length_eq_zero hvals.symm
      subst this
      simp at hj
 case rt q=>
  cases hq:x.h q with
  |none=>rw [hq] at h;cases h
  |some blk=>
   rw [hq] at h
   cases blk with
   |box=>cases h
   |ext=>cases h
   |arr m t' st xs=>
    obtain ⟨hm,how,ψ,hrl,hφ⟩:=hM.root q _ hq
    have hf:=hv.rf (by intro cs e;cases e) (by intro cs e;cases e) (by intro f cs e;cases e)
    have hsv:=hf.2 _ _ _ _ (.arr hq)
    subst hsv
    have hval:∀ {zs:List (El t')},zs=xs→(∃ a c,G.sv q = .slice (some a) zs.length c∧∀ j u,(G.vals q)[j]?=some u→w.cell? (a.add j)=some u)∨(∃ c,G.sv q = .slice none 0 c∧zs=[]):=by
     intro zs e;subst e
     rcases own_val how with h|⟨h,h0⟩
     · exact .inl h
     · exact .inr ⟨0,h,List.eq_nil_of_length_eq_zero h0⟩
    cases hft:t'.flat with
    |true=>
     simp only [hft,cond_true,Option.some.injEq,Prod.mk.injEq] at h
     obtain ⟨rfl,h⟩:=h
     cases h
     have h0:=hrl.flat0 (g8_ hft)
     exact ⟨x,G,_,ψ,_,⟨Evo.refl _ _ _,hM,Sub.refl _,hrl,fun _=>kK_ hft,fun b=>by rw [h0];omega,fun b hb=>absurd (h0 b) hb,fun m=>fP_ _ _ _ _,hrl.one fun a ha=>⟨_,dc_ a ha⟩,hval rfl⟩⟩
    |false=>
     simp only [hft,cond_false,Option.some.injEq,Prod.mk.injEq] at h
     obtain ⟨rfl,h⟩:=h
     cases h
     refine ⟨x,G,_,ψ,_,⟨Evo.refl _ _ _,hM,Sub.kill x q,hrl,fun h => ?_,fun b => ?_,fun b hb hF => ?_,fun m=>fP_ _ _ _ _,hrl.one fun a ha=>⟨_,dc_ a ha⟩,hval rfl⟩⟩
     · cases m with
       |d=>exact nz_
       |s=>cases h
       |v=>cases h
     · have:=hM.one q _ b hq;rw [hφ] at this;omega
     · obtain ⟨r',blk,e1,e2⟩:=hF
       have e3:=hM.sep q r' _ _ b hq ((Sub.kill x q).1 _ _ e1) (by rw [hφ];omega) e2
       subst e3
       simp [X.blk,a3_] at e1
 case sr q lo hi=>
  cases hq:x.h q with
  |none=>rw [hq] at h;cases h
  |some blk=>
   rw [hq] at h
   cases blk with
   |box=>cases h
   |ext=>cases h
   |arr m t' st xs=>
    simp only [Option.some.injEq,Prod.mk.injEq] at h
    obtain ⟨rfl,h⟩:=h
    cases h
    have hf:=hv.rf (by intro cs e;cases e) (by intro cs e;cases e) (by intro f cs e;cases e)
    obtain ⟨a,n,c,a',c',hsv,hlh,hhi,hcc,hV,hpos⟩:=hf.2 _ _ _ _ (.arr hq)
    obtain ⟨G',ev,hM',esv,evals⟩:=hM.demote hq t.flat (fun _=>.inr trivial)
    obtain ⟨hm',how,ψ,hrl,hφ⟩:=hM'.root q _ (a3_ _ _ _)
    have hm:m ≠ .v:=by obtain ⟨hm,_⟩:=hM.root q _ hq;exact hm
    rw [esv] at how hφ
    rw [evals] at how hrl
    have h0:∀ b,ψ b=0:=by
     cases hft:t.flat with
     |true=>exact hrl.flat0 (g8_ hft)
     |false=>
      rcases M.meet_sub hm false with ⟨_,h,_⟩|h
      · cases h
      · rw [hft,h] at hrl
        intro b
        have:=hrl
        have key:∀ {F:Nat→Prop} {l vs φ},RL E w F l vs φ→(∀ a ∈ l,a.coded .v)→∀ b,φ b=0:=by
         intro F l vs φ h
         induction h with
         |nil _ h0=>exact fun _=>h0
         |scal a v l vs φ _ _ ih=>exact fun hf=>ih fun a ha=>hf a (List.mem_cons_of_mem _ ha)
         |view t xs a n cap vals z l vs φ hn _ hz hb _ _ ih=>exact fun hf=>ih fun a ha=>hf a (List.mem_cons_of_mem _ ha)
         |own m t xs v vals φ₁ l vs φ₂ φ hm how _ hF _ he _ ih=>
          intro hf
          rcases hf _ (List.mem_cons_self ..) with ⟨_,_,e⟩|⟨_,e⟩|⟨_,e⟩|⟨_,_,e⟩<;>cases e
          exact absurd rfl hm
         |_=>intro hf;rcases hf _ (List.mem_cons_self ..) with ⟨_,_,e⟩|⟨_,e⟩|⟨_,e⟩|⟨_,_,e⟩<;>cases e
        exact key this dc_ b
    have hpart:=hrl.rows_part h0 hlh hhi
    have hlen:((xs.take hi).drop lo).length=hi - lo:=by rw [List.length_drop,List.length_take];omega
    refine ⟨_,G',_,fun _=>0,_,⟨ev,hM',Sub.refl _,hpart,fun h=>kK_ h,fun b=>by omega,fun b hb=>absurd rfl hb,fun m=>fP_ _ _ _ _,hpart.one fun a ha=>⟨_,dc_ a ha⟩,?_⟩⟩
    rw [hlen]
    by_cases hlt:lo<hi
    · obtain ⟨g,rfl,rfl⟩:=hpos hlt
      refine .inl ⟨_,c',hV,fun j u hj => ?_⟩
      have hr:=c1_ (eK_ how hsv) (lo*t.width) ((hi - lo)*t.width)
      rw [Nat.zero_add] at hr
      rw [Addr.add_mid];exact hr j u hj
    · have hz:hi - lo=0:=by omega
      have hnil:(xs.take hi).drop lo=[]:=List.eq_nil_of_length_eq_zero (by omega)
      rw [hz] at hV
      cases a' with
      |none=>exact .inr ⟨c',hV,hnil⟩
      |some a'=>
       refine .inl ⟨a',c',by rw [hz];exact hV,fun j u hj => ?_⟩
       rw [hz,Nat.zero_mul] at hj
       simp at hj
end Go.Pi
end
section
namespace Go.Pi
section
variable {P:Program} (w:World)
theorem dS_ (t ty e:TypeId) (i:TypeInfo) (z:Value) (ht:P.underlying t=some (.slice e)) (hi:P.info? e=some i) (hz:i.zero=some z)
  (hzs:z.cells.size=i.size) (hsz:0<i.size) (v:Value) (n:Nat) (xs:List Value) (hown:w.ownsRow 0 e i.size v n xs)
  (V:Value) (m:Nat) (news:List Value) (hl:news.length=m*i.size) (hV:(∃ a c,V = .slice (some a) m c∧∀ j u,news[j]?=some u→w.cell? (a.add j)=some u)∨(∃ c,V = .slice none 0 c∧m=0)) (h1:∀ u ∈ news,u.oneCell'=true)
  (h63:n+m≤maxLen) (hbytes:(n+m)*i.bytes≤140737488355328) :
  ∃ v' w',(Builtin.append_ #[t,t] ty #[v,V]).run P w = .ok v' w'∧w'.ownsRow 0 e i.size v' (n+m) (xs++news)∧f3_ w w' (fun b=>bP_ v b≠0)∧∀ b,bP_ v' b≠0→(w.heap.size≤b∨bP_ v b≠0)∧b<w'.heap.size:=by
 have hsmall:n+m≤9223372036854775807:=by simp only [maxLen] at h63;omega
 have lies:∀ {w':World} {v':Value} {k:Nat} {us:List Value},w'.ownsRow 0 e i.size v' k us→∀ b,bP_ v' b≠0→b<w'.heap.size:=by
  intro w' v' k us h b hb
  rcases h.2 with ⟨rfl,_⟩|⟨g,cap,cur,rfl,_,hg,_⟩
  · simp [bP_] at hb
  · have:g=b:=by simp only [bP_] at hb;exact Classical.byContradiction fun h=>hb (if_neg h)
    subst this
    exact (Array.getElem?_eq_some_iff.1 hg).1
 have gc:∀ {w':World},w.grownBy w' v.ownBlock→f3_ w w' (fun b=>bP_ v b≠0):=by
  intro w' h
  refine ⟨h.os,h.tape,h.output,h.size,fun b hb hn=>h.block b hb fun e1=>hn ?_⟩
  rcases hown.2 with ⟨rfl,_⟩|⟨g,cap,cur,rfl,_⟩
  · simp [Value.ownBlock] at e1
  · simp only [Value.ownBlock,Option.some.injEq] at e1
    subst e1
    simp [bP_]
 rcases hV with ⟨a,c,rfl,hnews⟩|⟨c,rfl,rfl⟩
 · obtain ⟨v',w',hr,h2,h3,h4⟩:=run_append_own (P:=P) w 0 t ty e i z i.size i.bytes ht hi hz rfl rfl hzs hsz v n xs hown a m c news hl hnews h1 h63 hbytes (Nat.zero_le _)
   refine ⟨v',w',hr,h2,gc h3,fun b hb=>⟨?_,lies h2 b hb⟩⟩
   rcases hown.2 with ⟨rfl,rfl⟩|⟨g,cap,cur,rfl,hbg,hg,hnc,hcm,hcs,htake⟩
   · by_cases hm:m=0
     · rw [h4.2 ⟨rfl,hm⟩] at hb
       simp [bP_] at hb
     · have hr2:=run_append_nil (P:=P) w t ty e i z ht hi hz a m c news hl hnews (by omega) (by omega) (by simp only [Nat.zero_add] at hbytes;omega)
       rw [hr] at hr2
       cases hr2
       exact .inl (gV_ w (.cells #[] 0) _ _ b hb).1
   · by_cases hroom:n+m≤cap
     · have hfit:n*i.size+news.length≤cur.size:=by rw [hl,hcs,←Nat.add_mul];exact Nat.mul_le_mul_right _ hroom
       have hr2:=run_append_room (P:=P) w t ty e i ht hi g n cap cur hg a m c news hl hnews h1 hroom hfit
       rw [hr] at hr2
       cases hr2
       exact .inr hb
     · have holds:∀ j u,xs[j]?=some u→w.cell? ((⟨g,0,none⟩:Addr).add j)=some u:=hown.cells (g:=g) rfl
       have hr2:=run_append_grow (P:=P) w t ty e i z ht hi hz ⟨g,0,none⟩ n cap xs hown.1 holds a m c news hl hnews (by omega) (by omega) (growslice_fits (by omega) hbytes)
       rw [hr] at hr2
       cases hr2
       exact .inl (gV_ w (.cells #[] 0) _ _ b hb).1
 · have hn:news=[]:=List.eq_nil_of_length_eq_zero (by simpa using hl)
   subst hn
   refine ⟨v,w,?_,by rw [List.append_nil];exact hown,⟨rfl,rfl,rfl,Nat.le_refl _,fun _ _ _=>rfl⟩,fun b hb=>⟨.inr hb,lies hown b hb⟩⟩
   rcases hown.2 with ⟨rfl,rfl⟩|⟨g,cap,cur,rfl,_,_,hnc,_⟩
   · simp [Builtin.append_,run_underlying ht,sizeOf,typeInfo,hi,Builtin.lenOf,Builtin.firstCells]
   · simp [Builtin.append_,run_underlying ht,sizeOf,typeInfo,hi,Builtin.lenOf,Builtin.firstCells,hnc,storeCells]
end
variable [ao_]
open ao_
variable {ω:Type}
variable {E:Env} {x:X} {w w':World} {G:av_} {κ:X→AV→Option ω} {r:ω} {o:Oper} {α:Operand→Value}
theorem Goes.later {x0:X} {w0:World} {G0:av_} (ev:Evo x w G x0 w0 G0) {V w'} (h:Goes E κ r x0 w0 G0 V w'):Goes E κ r x w G V w':=by
 obtain ⟨x',G',v,hk,e1,hM,hv,hu⟩:=h
 exact ⟨x',G',v,hk,ev.trans e1,hM,hv,hu⟩
omit [ao_] in
theorem meet_meet {m:M} (hm:m ≠ .v) (ok:Bool):m.meet ok=M.meet .d ((match m with | .d=>true|_=>false)&&ok):=by
 cases m<;>cases ok<;>first|exact absurd rfl hm|rfl
section
variable (hM:Mem E x w G)
include hM
theorem go_append [aq_] {T te q s y} (hT:E.P.underlying T=some (.slice (E.eid te))) (tc:TCok E te) (ho:o.op = .call { callee:=.builtin .append,args:=#[s,y],argTypes:=#[T,T] })
  {a v} (ha:RT E w x G a (α s)) (hau:Used x a.refsT) (hv:RT E w x G v (α y)) (h:e7_ te x q a v κ=some r):bm_ E o α κ r x w G:=by
 unfold e7_ at h
 cases hsrc:if_ x v with
 |none=>rw [hsrc] at h;cases h
 |some p=>
  obtain ⟨x1,t,ys,ok⟩:=p
  rw [hsrc] at h
  simp only at h
  by_cases hte:t=te
  · subst hte
    simp only [decide_true,cond_true] at h
    obtain ⟨x0,G0,L,φ,vals,so⟩:=src_sound hM hv hsrc
    obtain ⟨i,z,zs,zc,hi,hz,hsize,hbytes,hzs,hall,hone,hsims⟩:=tc.info
    have hpos:0<t.width:=aq_.pos t
    have hzw:z.cells.size=i.size:=by rw [hzs,hsize];simp;rw [←hall.length,ep_ (hsims .v),aq_.len]
    have hnl:vals.length=ys.length*i.size:=by rw [←so.rl.length,ep_ (so.sims .v),cN_,hsize]
    have hsv:(∃ a c,α y = .slice (some a) ys.length c∧∀ j u,vals[j]?=some u→w.cell? (a.add j)=some u)∨(∃ c,α y = .slice none 0 c∧ys.length=0):=by
     rcases so.val with h|⟨c,h,h0⟩
     · exact .inl h
     · exact .inr ⟨c,h,by rw [h0];rfl⟩
    have hroom:∀ {n:Nat} {k:Option ω},cl_ n t.bytes k=some r→n*t.bytes≤140737488355328∧n≤maxLen∧k=some r:=by
     intro n k h
     unfold cl_ at h
     by_cases hb:n*t.bytes≤140737488355328
     · have:=tc.pos
       have h2:n*1≤n*t.bytes:=Nat.mul_le_mul_left _ this
       simp only [hb,decide_true,cond_true] at h
       exact ⟨hb,by simp only [maxLen];omega,h⟩
     · simp [hb] at h
    have runs:∀ {V w'},(Builtin.append_ #[T,T] o.type #[α s,α y]).run E.P w = .ok V w'→Goes E κ r x w G V w'→bm_ E o α κ r x w G:=by
     intro V w' hr hg
     refine bm_.value (V:=V) (w':=w') ?_ hg
     unfold execOp
     simp only [ho,resolve,invoke,builtin,Sem.run_bind,Sem.run_pure,Result.andThen_ok,List.map_toArray,List.map_cons,List.map_nil,hr]
    have ha0:=ha.evolve so.evo hau
    cases a<;>simp only at h<;>(try (cases h;done))
    case nils=>
     obtain ⟨hb,hmx,h⟩:=hroom h
     unfold X.new at h
     cases hq:x1.u q with
     |true=>rw [hq] at h;cases h
     |false=>
      rw [hq] at h
      have hnil:=ha.nils
      have hown0:=World.ownsRow_nil w 0 (E.eid t) i.size
      rw [←hnil] at hown0
      obtain ⟨v',w',hr,k1,k2,k3⟩:=dS_ (P:=E.P) w T o.type (E.eid t) i z hT hi hz hzw (by omega) _ _ _ hown0 _ ys.length vals hnl hsv so.cell (by omega) (by rw [hbytes];simpa using hb)
      refine runs hr (Goes.later so.evo ?_)
      have hno:∀ b,bP_ (α s) b=0:=fun b=>by rw [hnil];rfl
      refine Goes.arrC so.mem so.sub hq (C:=fun b=>bP_ (α s) b≠0) k2 (fun b hb=>absurd (hno b) hb) (te:=t) (xs:=ys) (sv:=v') (vals:=[]++vals) (L:=L) (φ:=φ) (ok:=ok) ?_ k3 so.rl (fun b _ hb=>hb (hno b)) so.okD so.one so.out so.sims h
      rw [hsize] at k1
      simpa using k1
    case rt q0=>
     cases hq0:x1.h q0 with
     |none=>rw [hq0] at h;cases h
     |some blk=>
      rw [hq0] at h
      cases blk with
      |box=>cases h
      |ext=>cases h
      |arr m t' st xs=>
       simp only at h
       by_cases htt:t'=t
       · subst htt
         simp only [dite_true] at h
         obtain ⟨hb,hmx,h⟩:=hroom h
         unfold X.new at h
         cases hq:(x1.blk q0 none).u q with
         |true=>rw [hq] at h;cases h
         |false=>
          rw [hq] at h
          have hq1:=so.sub.1 q0 _ hq0
          obtain ⟨hm,how,ψ,hrl,hφ⟩:=so.mem.root q0 _ hq1
          have hf:=ha0.rf (by intro cs e;cases e) (by intro cs e;cases e) (by intro f cs e;cases e)
          have hsv0:=hf.2 _ _ _ _ (.arr hq1)
          rw [←hsv0] at how hφ
          rw [←hsize] at how
          obtain ⟨v',w',hr,k1,k2,k3⟩:=dS_ (P:=E.P) w T o.type (E.eid t') i z hT hi hz hzw (by omega) _ _ _ how _ ys.length vals hnl hsv so.cell (by omega) (by rw [hbytes];exact hb)
          refine runs hr (Goes.later so.evo ?_)
          have hS2:Sub (x1.blk q0 none) x0:=(Sub.kill x1 q0).trans so.sub
          have hdead:∀ b,so.mem.root q0 _ hq1=so.mem.root q0 _ hq1→G0.φ q0 b≠0→¬ Fof (x1.blk q0 none) G0 b:=by
           intro b _ hb ⟨r',blk,e1,e2⟩
           have e3:=so.mem.sep q0 r' _ _ b hq1 (hS2.1 _ _ e1) hb e2
           subst e3
           simp [X.blk,a3_] at e1
          have halive:∀ b,G0.φ q0 b≠0→Fof x1 G0 b:=fun b hb=>⟨q0,_,hq0,hb⟩
          have hφ0:∀ b,φ b≠0→G0.φ q0 b=0:=fun b hb=>Classical.byContradiction fun h=>so.out b hb (halive b h)
          rw [meet_meet hm ok] at h
          refine Goes.arrC so.mem hS2 hq (C:=fun b=>bP_ (α s) b≠0) k2 (fun b hb=>⟨⟨q0,_,hq1,by rw [hφ];omega⟩,hdead b rfl (by rw [hφ];omega)⟩) (te:=t') (xs:=xs++ys) (sv:=v') (vals:=G0.vals q0++vals)
           (L:=aV_ m.sub t' xs++L) (φ:=fun b=>ψ b+φ b) ?_ k3 (hrl.append so.rl (fun b=>rfl)) (fun b hb hc => ?_) (fun hk => ?_) (fun b => ?_) (fun b hb => ?_) (fun m' => ?_) h
          · rw [hsize] at k1
            rw [List.length_append];exact k1
          · have hb:ψ b+φ b≠0:=hb
            have:=so.mem.one q0 _ b hq1
            rw [hφ] at this
            by_cases h0:φ b=0
            · omega
            · have:=hφ0 b h0;rw [hφ] at this;omega
          · simp only [Bool.and_eq_true] at hk
            rw [List.all_append,so.okD hk.2,Bool.and_true]
            cases m with
            |d=>exact nz_
            |s=>simp at hk
            |v=>simp at hk
          · show ψ b+φ b≤1
            have h2:=so.mem.one q0 _ b hq1
            rw [hφ] at h2
            have h3:=so.one b
            by_cases h0:φ b=0
            · omega
            · have:=hφ0 b h0;rw [hφ] at this;omega
          · have hb:ψ b+φ b≠0:=hb
            by_cases h0:φ b=0
            · exact hdead b rfl (by rw [hφ];omega)
            · exact fun hF=>so.out b h0 ((Sub.kill x1 q0).fof hF)
          · rw [bV_]
            exact fp_ (fP_ _ _ _ _) (so.sims m')
       · simp only [htt,dite_false] at h
         cases h
  · simp [hte] at h
end
end Go.Pi
end
section
namespace Go.Pi
variable [ao_]
open ao_
variable {ω:Type}
variable {E:Env} {x:X} {w w':World} {G:av_} {κ:X→AV→Option ω} {r:ω} {o:Oper} {α:Operand→Value}
omit [ao_] in
theorem iv_ {e:TypeId} {size n:Nat} {v:Value} {vals:List Value} (how:w.ownsRow 0 e size v n vals):∃ a c,v = .slice a n c∧n≤c:=by
 rcases how.2 with ⟨rfl,rfl⟩|⟨g,cap,cur,rfl,_,_,hnc,_⟩
 · exact ⟨none,0,rfl,Nat.le_refl _⟩
 · exact ⟨_,cap,rfl,hnc⟩
theorem RL.sl_val {F:Nat→Prop} {m t ys v φ} (h:RL E w F [.sl m t ys] [v] φ):∃ a c,v = .slice a ys.length c∧ys.length≤c:=by
 cases h with
 |scal _ _ _ _ _ hs _=>exact hs.elim
 |view _ _ a n cap vals z _ _ _ hn=>exact ⟨a,cap,by rw [hn.1],by have:=hn.2;omega⟩
 |own _ _ _ _ vals φ₁ _ _ φ₂ _ hm how=>exact iv_ how
theorem kp_ [aq_] (hM:Mem E x w G) {q st i off t ys V} (hv:RF E w x G (.ns q st i off t ys) V) {m t' xs} (hq:x.h q=some (.arr m t' st xs)) :
  ∃ φ,RL E w (Fof x G) [.sl m.sub t ys] [V] φ∧(m.sub = .v→∀ b,φ b=0)∧∀ b,φ b≠0→G.φ q b≠0:=by
 obtain ⟨_,hr,_⟩:=hv
 obtain ⟨_,h2⟩:=hr _ _ _ _ hq
 obtain ⟨hi,hc,hvv⟩:=h2 rfl
 obtain ⟨hm,how,ψ,hrl,hφ⟩:=hM.root q _ hq
 obtain ⟨us,vs,ws,φ₁,φ₂,φ₃,hvals,hl1,hl2,k1,k2,k3,he⟩:=hrl.row hi
 have hoff:off<t'.width:=by
  have:=(List.getElem?_eq_some_iff.1 hc).1
  rwa [aq_.len] at this
 have hvs:vs[off]?=some V:=by
  rw [hvals,List.append_assoc,List.getElem?_append_right (by omega),hl1,List.getElem?_append_left (by omega)] at hvv
  rwa [show i*t'.width+off - i*t'.width=off by omega] at hvv
 have hc':(enc m.sub t' (xs.getD i (El.dflt t')))[off]?=some (.sl m.sub t ys):=by
  have e1:(enc m.sub t' (xs.getD i (El.dflt t'))).map AV.asView=(enc .d t' (xs.getD i (El.dflt t'))).map AV.asView:=by rw [aq_.view,aq_.view]
  have e2:=congrArg (fun l=>l[off]?) e1
  simp only [List.getElem?_map,hc,Option.map_some] at e2
  cases e3:(enc m.sub t' (xs.getD i (El.dflt t')))[off]? with
  |none=>rw [e3] at e2;cases e2
  |some a=>
   rw [e3] at e2
   simp only [Option.map_some,Option.some.injEq] at e2
   rcases aq_.cell m.sub _ _ a (List.mem_of_getElem? e3) with ⟨_,_,rfl⟩|⟨_,rfl⟩|⟨_,rfl⟩|⟨t2,zs,rfl⟩
   · cases e2
   · cases e2
   · cases e2
   · simp only [AV.asView] at e2
     cases e2;rfl
 have hsplit:enc m.sub t' (xs.getD i (El.dflt t'))=(enc m.sub t' (xs.getD i (El.dflt t'))).take off++(.sl m.sub t ys::(enc m.sub t' (xs.getD i (El.dflt t'))).drop (off+1)):=by
  have h5:off<(enc m.sub t' (xs.getD i (El.dflt t'))).length:=by rw [aq_.len];exact hoff
  have h6:(enc m.sub t' (xs.getD i (El.dflt t')))[off] = .sl m.sub t ys:=by
   rw [List.getElem?_eq_getElem h5] at hc'
   exact Option.some.inj hc'
  rw [←h6,List.getElem_cons_drop,List.take_append_drop]
 rw [hsplit] at k2
 obtain ⟨us1,us2,ψ₁,ψ₂,rfl,j1,j2,e1⟩:=RL.split k2
 obtain ⟨u,us3,ψ₃,ψ₄,rfl,j3,j4,e2⟩:=RL.uncons j2
 have hl:us1.length=off:=by rw [←j1.length,List.length_take,aq_.len];omega
 have:u=V:=by
  rw [List.getElem?_append_right (by omega),hl,Nat.sub_self] at hvs
  simpa using hvs
 subst this
 refine ⟨ψ₃,j3,fun hs b => ?_,fun b hb => ?_⟩
 · rw [hs] at j3
   exact RL.vzero j3 b
 · have h1:=he b;have h2:=e1 b;have h3:=e2 b
   rw [hφ];omega
structure TTok (E:Env) (T:TypeId) (ty:Option TD):Prop where
 ok:∀ td,ty=some td→TDok E T td
omit [ao_] in
theorem gf_ {T ty t} (h:TTok E T ty) {k:Option ω} (hk:gH_ ty t k=some r):E.P.underlying T=some (.slice (E.eid t))∧k=some r:=by
 unfold gH_ at hk
 split at hk
 · rename_i td
   split at hk
   · rename_i te hte
     by_cases e:t=te
     · subst e
       simp only [decide_true,cond_true] at hk
       exact ⟨(h.ok td rfl).elem _ hte,hk⟩
     · simp [e] at hk
   · cases hk
 · cases hk
omit [ao_] in
theorem k4_ {T ty} (h:TTok E T ty) {β:Type} {k:Option β} {b:β} (hk:slB ty k=some b):∃ e,E.P.underlying T=some (.slice e)∧k=some b:=by
 unfold slB at hk
 split at hk
 · rename_i td
   split at hk
   · rename_i te hte
     exact ⟨_,(h.ok td rfl).elem _ hte,hk⟩
   · cases hk
 · cases hk
omit [ao_] in
theorem strB_ok {T ty} (h:TTok E T ty) {β:Type} {k:Option β} {b:β} (hk:strB ty k=some b):E.P.underlying T=some .string∧k=some b:=by
 unfold strB at hk
 split at hk
 · rename_i td
   cases hs:td.isStr with
   |true=>rw [hs] at hk;exact ⟨(h.ok td rfl).str hs,hk⟩
   |false=>rw [hs] at hk;cases hk
 · cases hk
omit [ao_] in
theorem jW_ {n:Int} {len:Nat} {k:Option ω} (h:inB n len k=some r):0≤n∧n<len∧k=some r:=by
 unfold inB at h
 by_cases h0:0≤n
 · by_cases h1:n<len
   · simp only [h0,h1,decide_true,cond_true] at h;exact ⟨h0,h1,h⟩
   · simp [h0,h1] at h
 · simp [h0] at h
theorem nh_ [aq_] (hM:Mem E x w G) {T ty a V n} (ht:TTok E T ty) (hv:RT E w x G a V) (h:lenOf ty x a=some n) :
  (∃ l,a = .s l∧l.length=n∧V = .string ⟨l.toArray⟩∧E.P.underlying T=some .string)∨∃ e p c,V = .slice p n c∧n≤c∧E.P.underlying T=some (.slice e):=by
 cases a<;>simp only [lenOf] at h<;>(try (cases h;done))
 case s l=>
  obtain ⟨h1,h2⟩:=strB_ok ht h
  exact .inl ⟨l,rfl,by simpa using h2,hv.s,h1⟩
 case nils=>
  obtain ⟨e,h1,h2⟩:=k4_ ht h
  cases h2
  exact .inr ⟨e,none,0,hv.nils,Nat.le_refl _,h1⟩
 case sl m t xs=>
  cases m<;>simp only at h<;>(try (cases h;done))
  obtain ⟨e,h1,h2⟩:=k4_ ht h
  cases h2
  have hf:=hv.rf (by intro cs e;cases e) (by intro cs e;cases e) (by intro f cs e;cases e)
  obtain ⟨p,c,hV,hc⟩:=RL.sl_val hf
  exact .inr ⟨e,p,c,hV,hc,h1⟩
 case rt q=>
  cases hq:x.h q with
  |none=>rw [hq] at h;cases h
  |some blk=>
   rw [hq] at h
   cases blk with
   |box=>cases h
   |ext=>cases h
   |arr m t st xs=>
    obtain ⟨e,h1,h2⟩:=k4_ ht h
    cases h2
    have hf:=hv.rf (by intro cs e;cases e) (by intro cs e;cases e) (by intro f cs e;cases e)
    obtain ⟨hm,how,_⟩:=hM.root q _ hq
    obtain ⟨p,c,hV,hc⟩:=iv_ how
    exact .inr ⟨e,p,c,(hf.2 _ _ _ _ (.arr hq)).trans hV,hc,h1⟩
 case sr q lo hi=>
  cases hq:x.h q with
  |none=>rw [hq] at h;cases h
  |some blk=>
   rw [hq] at h
   cases blk with
   |box=>cases h
   |ext=>cases h
   |arr m t st xs=>
    obtain ⟨e,h1,h2⟩:=k4_ ht h
    cases h2
    have hf:=hv.rf (by intro cs e;cases e) (by intro cs e;cases e) (by intro f cs e;cases e)
    obtain ⟨p,n,c,p',c',hsv,hlh,hhi,hcc,hV,hpos⟩:=hf.2 _ _ _ _ (.arr hq)
    exact .inr ⟨e,p',c',hV,hcc,h1⟩
 case ns q st i off t ys=>
  cases hq:x.h q with
  |none=>rw [hq] at h;cases h
  |some blk=>
   rw [hq] at h
   cases blk with
   |box=>cases h
   |ext=>cases h
   |arr m t' st' xs=>
    simp only at h
    cases hb:Nat.beq st st' with
    |false=>rw [hb] at h;cases h
    |true=>
     rw [hb] at h
     obtain rfl:=Nat.eq_of_beq_eq_true hb
     obtain ⟨e,h1,h2⟩:=k4_ ht h
     cases h2
     have hf:=hv.rf (by intro cs e;cases e) (by intro cs e;cases e) (by intro f cs e;cases e)
     obtain ⟨φ,hrl,_,_⟩:=kp_ hM hf hq
     obtain ⟨p,c,hV,hc⟩:=RL.sl_val hrl
     exact .inr ⟨e,p,c,hV,hc,h1⟩
end Go.Pi
end
section
namespace Go.Pi
variable [ao_]
open ao_
variable {ω:Type}
variable {E:Env} {x:X} {w w':World} {G:av_} {κ:X→AV→Option ω} {r:ω} {o:Oper} {α:Operand→Value}
omit [ao_] in
theorem ew_ {P:Program} {T e:TypeId} {i:TypeInfo} (hT:P.underlying T=some (.slice e)) (hi:P.info? e=some i) {a:Addr} {n c:Nat} {k:IntKind} {j:Int} (h0:0≤j) (h1:j<n) :
  (Instr.indexAt T (.slice (some a) n c) (.int k j)).run P w = .ok (.pointer (some (a.add (j.toNat*i.size)))) w:=by
 simp [Instr.indexAt,asIntOf,run_underlying hT,sizeOf,typeInfo,hi,h0,h1]
theorem rt_pc [aq_] {b o':Nat} {cs:List AV} {vals:List Value} {z:Nat→Nat} (off:Nat) (h1:RL E w (Fof x G) cs vals z) (hz:∀ b,z b=0) (hr:w.rangeAt b o' vals) (hlt:b<w.heap.size) (hF:¬ Fof x G b) :
  RT E w x G (.pc cs off) (.pointer (some ⟨b,o'+off,none⟩)) :=
 .flat _ _ (.inl (RL.pc cs b o' off vals z _ _ _ h1 hz hr hlt hF (.nil _ fun _=>rfl)))
section
variable (hM:Mem E x w G)
include hM
theorem go_len [aq_] {T a v n} {ty} (ht:TTok E T ty) (ho:o.op = .call { callee:=.builtin .len,args:=#[a],argTypes:=#[T] }) (hv:RT E w x G v (α a)) (h:lenOf ty x v=some n) (hk:κ x (.i .i64 (n:Int))=some r):bm_ E o α κ r x w G:=by
 refine bm_.value (V:=.int .i64 n) (w':=w) ?_ (Goes.same hM hk (RT.scl rfl) bR_)
 have hr:(Builtin.len_ #[T] o.type #[α a]).run E.P w = .ok (.int .i64 n) w:=by
  rcases nh_ hM ht hv h with ⟨l,rfl,hl,hV,hT⟩|⟨e,p,c,hV,_,hT⟩
  · rw [hV]
    simp [Builtin.len_,run_underlying hT,goInt,←hl]
    rfl
  · rw [hV]
    simp [Builtin.len_,run_underlying hT,goInt]
 unfold execOp
 simp only [ho,resolve,invoke,builtin,Sem.run_bind,Sem.run_pure,Result.andThen_ok,List.map_toArray,List.map_cons,List.map_nil,hr]
omit hM in
theorem jF_ [aq_] {T t} {ys:List (El t)} {V} (hT:E.P.underlying T=some (.slice (E.eid t))) (tc:TCok E t) (hv:RL E w (Fof x G) [.sl .v t ys] [V] (fun _=>0)) {k:IntKind} {n:Int} (h0:0≤n) (h1:n<ys.length) :
  ∃ P,(Instr.indexAt T V (.int k n)).run E.P w = .ok P w∧RT E w x G (.pc (enc .v t (ys.getD n.toNat (El.dflt t))) 0) P:=by
 obtain ⟨i,z,zs,zc,hi,hz,hsize,_⟩:=tc.info
 cases hv with
 |scal _ _ _ _ _ hs _=>exact hs.elim
 |own _ _ _ _ _ _ _ _ _ _ hm=>exact absurd rfl hm
 |view _ _ a len cap vals z' _ _ _ hn h2 hz' hb _=>
  obtain ⟨b,o',rfl,hr,hlt,hF⟩:=hb (by have:=hn.1;omega)
  refine ⟨_,ew_ hT hi h0 (by rw [hn.1];exact h1),?_⟩
  have hlt2:n.toNat<ys.length:=by omega
  obtain ⟨us,vs,ws,φ₁,φ₂,φ₃,hvals,hl1,hl2,k1,k2,k3,he⟩:=h2.row hlt2
  rw [Addr.add_mid,hsize]
  refine rt_pc 0 k2 (fun b=>by have:=he b;rw [hz'] at this;omega) ?_ hlt hF
  have h3:=c1_ hr (n.toNat*t.width) t.width
  rw [hvals,List.append_assoc,←hl1,List.drop_left,←hl2,List.take_left] at h3
  rwa [hl1] at h3
theorem lB_ [aq_] {T a ix v k n} {ty} (ht:TTok E T ty) (tcs:∀ t,TCok E t) (ho:o.op = .indexAddr T a ix) (hv:RT E w x G v (α a)) (hau:Used x v.refsT) (hi:α ix = .int k n) (h:indexAt ty x v n κ=some r):bm_ E o α κ r x w G:=by
 have val:∀ {V w'},(Instr.indexAt T (α a) (.int k n)).run E.P w = .ok V w'→Goes E κ r x w G V w'→bm_ E o α κ r x w G:=fun hr hg=>bm_.value (by simp [execOp,ho,hi,hr]) hg
 cases v<;>simp only [indexAt] at h<;>(try (cases h;done))
 case sl m t xs=>
  cases m<;>simp only at h<;>(try (cases h;done))
  obtain ⟨hT,h⟩:=gf_ ht h
  obtain ⟨h0,h1,h⟩:=jW_ h
  have hf:=hv.rf (by intro cs e;cases e) (by intro cs e;cases e) (by intro f cs e;cases e)
  obtain ⟨P,hr,hp⟩:=jF_ hT (tcs t) hf (k:=k) h0 h1
  exact val hr (Goes.same hM h hp bR_)
 case rt q=>
  cases hq:x.h q with
  |none=>rw [hq] at h;cases h
  |some blk=>
   rw [hq] at h
   cases blk with
   |box=>cases h
   |ext qq=>
    cases qq with
    |none=>cases h
    |some qq=>
    obtain ⟨m,t,st,i0,xs⟩:=qq
    simp only at h
    obtain ⟨hT,h⟩:=gf_ ht h
    obtain ⟨h0,h1,h⟩:=jW_ h
    have hf:=hv.rf (by intro cs e;cases e) (by intro cs e;cases e) (by intro f cs e;cases e)
    obtain ⟨hm,_,how,_⟩:=hM.root q _ hq
    have hsv:=hf.2 _ _ _ _ (.hol hq)
    obtain ⟨i,z,zs,zc,hi',hz,hsize,_⟩:=(tcs t).info
    rcases how.2 with ⟨_,e0⟩|⟨g,cap,cur,e1,_⟩
    · omega
    · refine val (by rw [hsv,e1];exact ew_ hT hi' h0 h1) (Goes.same hM h (.flat _ _ (.inl ⟨rfl,fun m' t' st' xs' hq' => ?_⟩)) ?_)
      · cases hq' with
        |arr e=>rw [hq] at e;cases e
        |hol e=>
         rw [hq] at e
         cases e
         exact ⟨by omega,g,_,_,e1,by rw [Addr.add_mid,hsize];simp⟩
      · intro z hz
        simp only [AV.refsT,AV.refsD,AV.refs,List.mem_singleton] at hz
        subst hz
        exact hM.used _ _ hq
   |arr m t st xs=>
    obtain ⟨hT,h⟩:=gf_ ht h
    obtain ⟨h0,h1,h⟩:=jW_ h
    have hf:=hv.rf (by intro cs e;cases e) (by intro cs e;cases e) (by intro f cs e;cases e)
    obtain ⟨hm,how,_⟩:=hM.root q _ hq
    have hsv:=hf.2 _ _ _ _ (.arr hq)
    obtain ⟨i,z,zs,zc,hi',hz,hsize,_⟩:=(tcs t).info
    rcases how.2 with ⟨_,e0⟩|⟨g,cap,cur,e1,_⟩
    · omega
    · refine val (by rw [hsv,e1];exact ew_ hT hi' h0 h1) (Goes.same hM h (.flat _ _ (.inl ⟨rfl,fun m' t' st' xs' hq' => ?_⟩)) ?_)
      · replace hq':=hq'.known hq
        rw [hq] at hq'
        cases hq'
        exact ⟨by omega,g,_,_,e1,by rw [Addr.add_mid,hsize];simp⟩
      · intro z hz
        simp only [AV.refsT,AV.refsD,AV.refs,List.mem_singleton] at hz
        subst hz
        exact hM.used _ _ hq
 case sr q lo hi'=>
  cases hq:x.h q with
  |none=>rw [hq] at h;cases h
  |some blk=>
   rw [hq] at h
   cases blk with
   |box=>cases h
   |ext=>cases h
   |arr m t st xs=>
    obtain ⟨hT,h⟩:=gf_ ht h
    obtain ⟨h0,h1,h⟩:=jW_ h
    have hf:=hv.rf (by intro cs e;cases e) (by intro cs e;cases e) (by intro f cs e;cases e)
    obtain ⟨p,n',c,p',c',hsv,hlh,hhi,hcc,hV,hpos⟩:=hf.2 _ _ _ _ (.arr hq)
    obtain ⟨i,z,zs,zc,hi',hz,hsize,_⟩:=(tcs t).info
    obtain ⟨g,rfl,rfl⟩:=hpos (by omega)
    refine val (by rw [hV];exact ew_ hT hi' h0 h1) (Goes.same hM h (.flat _ _ (.inl ⟨rfl,fun m' t' st' xs' hq' => ?_⟩)) ?_)
    · replace hq':=hq'.known hq
      rw [hq] at hq'
      cases hq'
      refine ⟨by omega,g,_,_,hsv,?_⟩
      rw [Addr.add_mid,hsize,Nat.add_mul,Nat.add_zero]
    · intro z hz
      simp only [AV.refsT,AV.refsD,AV.refs,List.mem_singleton] at hz
      subst hz
      exact hM.used _ _ hq
 case ns q st i off t ys=>
  cases hq:x.h q with
  |none=>rw [hq] at h;cases h
  |some blk=>
   rw [hq] at h
   cases blk with
   |box=>cases h
   |ext=>cases h
   |arr m t' st' xs=>
    simp only at h
    cases hb:Nat.beq st st' with
    |false=>rw [hb] at h;cases h
    |true=>
     rw [hb] at h
     obtain rfl:=Nat.eq_of_beq_eq_true hb
     obtain ⟨hT,h⟩:=gf_ ht h
     obtain ⟨h0,h1,h⟩:=jW_ h
     have hm:m ≠ .v:=(hM.root q _ hq).1
     obtain ⟨G',ev,hM',esv,evals⟩:=hM.demote hq false (fun _=>.inr trivial)
     have hv':=hv.evolve ev hau
     have hf:=hv'.rf (by intro cs e;cases e) (by intro cs e;cases e) (by intro f cs e;cases e)
     obtain ⟨φ,hrl,h00,_⟩:=kp_ hM' hf (a3_ _ _ _)
     have hsub:(m.meet false).sub = .v:=by
      rcases M.meet_sub hm false with ⟨_,h,_⟩|h
      · cases h
      · exact h
     rw [hsub] at hrl
     obtain ⟨P,hr,hp⟩:=jF_ hT (tcs t) (hrl.congr (h00 hsub)) (k:=k) h0 h1
     exact val hr (Goes.later ev (Goes.same hM' h hp bR_))
end
end Go.Pi
end
section
namespace Go.Pi
variable [ao_]
open ao_
variable {ω:Type}
variable {E:Env} {x:X} {w w':World} {G:av_} {κ:X→AV→Option ω} {r:ω} {o:Oper} {α:Operand→Value}
omit [ao_] in
theorem mD_ {lo hi:Int} {len:Nat} {k:Option ω} (h:j6_ lo hi len k=some r):0≤lo∧lo≤hi∧hi≤len∧k=some r:=by
 unfold j6_ at h
 by_cases h0:0≤lo
 · by_cases h1:lo≤hi
   · by_cases h2:hi≤len
     · simp only [h0,h1,h2,decide_true,cond_true] at h;exact ⟨h0,h1,h2,h⟩
     · simp [h0,h1,h2] at h
   · simp [h0,h1] at h
 · simp [h0] at h
def gO_ (v:Option Value) (d:Nat) (n:Int):Prop:=match v with
 |none=>n=d
 |some u=>∃ k,u = .int k n
def OptRT (E:Env) (w:World) (x:X) (G:av_):Option AV→Option Value→Prop
 |none,none=>True
 |some a,some u=>RT E w x G a u
 |_,_=>False
theorem j9_ {v:Option AV} {V:Option Value} {d:Nat} {n:Int} (h:fB_ v d=some n) (hv:OptRT E w x G v V):gO_ V d n:=by
 cases v with
 |none=>
  cases V with
  |none=>simp only [fB_,Option.some.injEq] at h;exact h.symm
  |some=>exact hv.elim
 |some a=>
  cases V with
  |none=>exact hv.elim
  |some u=>
   cases a<;>simp only [fB_] at h<;>(try (cases h;done))
   simp only [Option.some.injEq] at h
   subst h
   exact ⟨_,RT.i hv⟩
omit [ao_] in
theorem e2_ {P:Program} {s:Bool} {len cap:Nat} {lo hi:Option Value} {l h:Int} (hlo:gO_ lo 0 l) (hhi:gO_ hi len h) (h0:0≤l) (h1:l≤h) (h2:h≤len) (h3:len≤cap) :
  (Instr.sliceBounds s len cap lo hi none).run P w = .ok (l.toNat,h.toNat,cap) w:=by
 have hh:(h.toNat:Int)=h:=Int.toNat_of_nonneg (by omega)
 cases lo with
 |none=>
  have hl:l=0:=hlo
  subst hl
  cases hi with
  |none=>have e:h=len:=hhi;subst e;simp [Instr.sliceBounds]
  |some u=>obtain ⟨k,rfl⟩:=hhi;simp [Instr.sliceBounds,run_sliceBound,show 0≤h by omega,show h≤cap by omega]
 |some u=>
  obtain ⟨k,rfl⟩:=hlo
  cases hi with
  |none=>have e:h=len:=hhi;subst e;simp [Instr.sliceBounds,run_sliceBound,h0,h1]
  |some u=>obtain ⟨k',rfl⟩:=hhi;simp [Instr.sliceBounds,run_sliceBound,h0,h1,hh,show 0≤h by omega,show h≤cap by omega]
omit [ao_] in
theorem jp_ {P:Program} {T e:TypeId} {i:TypeInfo} (hT:P.underlying T=some (.slice e)) (hi':P.info? e=some i) {a:Option Addr} {len cap:Nat} {lo hi:Option Value} {l h:Int} (hlo:gO_ lo 0 l) (hhi:gO_ hi len h) (h0:0≤l) (h1:l≤h) (h2:h≤len) (h3:len≤cap) :
  (Instr.sliceAt T (.slice a len cap) lo hi none).run P w = .ok (sliced a l.toNat h.toNat cap i.size) w:=by
 simp [Instr.sliceAt,Instr.slice,run_underlying hT,e2_ hlo hhi h0 h1 h2 h3,sizeOf,typeInfo,hi',sliced]
omit [ao_] in
theorem im_ {P:Program} {T:TypeId} (hT:P.underlying T=some .string) {s:ByteArray} {lo hi:Option Value} {l h:Int} (hlo:gO_ lo 0 l) (hhi:gO_ hi s.size h) (h0:0≤l) (h1:l≤h) (h2:h≤s.size) :
  (Instr.sliceAt T (.string s) lo hi none).run P w = .ok (.string (s.extract l.toNat h.toNat)) w:=by
 simp [Instr.sliceAt,Instr.slice,run_underlying hT,e2_ hlo hhi h0 h1 h2 (Nat.le_refl _)]
omit [ao_] in
theorem lF_ (l:List UInt8) (a b:Nat):(ByteArray.mk l.toArray).extract a b=⟨((l.take b).drop a).toArray⟩:=by
 apply ByteArray.ext
 rw [ByteArray.data_extract]
 apply Array.toList_inj.1
 simp [List.extract,List.drop_take]
section
variable (hM:Mem E x w G)
include hM
theorem go_slice [aq_] {T a lo hi v vlo vhi} {ty} (ht:TTok E T ty) (tcs:∀ t,TCok E t) (ho:o.op = .slice T a lo hi none) (hv:RT E w x G v (α a)) (hau:Used x v.refsT)
  (hlo:OptRT E w x G vlo (lo.map α)) (hhi:OptRT E w x G vhi (hi.map α))
  (h:fa_ ty x v vlo vhi (κ x)=some r):bm_ E o α κ r x w G:=by
 unfold fa_ at h
 cases hlen:lenOf ty x v with
 |none=>rw [hlen] at h;cases h
 |some len=>
  rw [hlen] at h
  simp only at h
  cases hl:fB_ vlo 0 with
  |none=>rw [hl] at h;cases h
  |some l=>
   cases hh:fB_ vhi len with
   |none=>rw [hl,hh] at h;cases h
   |some hb=>
    rw [hl,hh] at h
    simp only at h
    have bl:=j9_ hl hlo
    have bh:=j9_ hh hhi
    have val:∀ {V w'},(Instr.sliceAt T (α a) (lo.map α) (hi.map α) none).run E.P w = .ok V w'→Goes E κ r x w G V w'→bm_ E o α κ r x w G:=fun hr hg=>bm_.value (by simp [execOp,ho,hr]) hg
    rcases nh_ hM ht hv hlen with ⟨s,rfl,hsl,hV,hT⟩|⟨e,p,c,hV,hc,hT⟩
    · simp only at h
      subst hsl
      obtain ⟨c0,c1,c2,hk⟩:=mD_ h
      refine val (by rw [hV];exact im_ hT bl (by simpa [ByteArray.size] using bh) c0 c1 (by simpa [ByteArray.size] using c2)) (Goes.same hM hk (RT.scl ?_) bR_)
      show Value.string _=Value.string _
      rw [lF_]
    · have key:∀ {t:TC} {κ':Option ω},gH_ ty t (j6_ l hb len κ')=some r→0≤l∧l≤hb∧hb≤len∧κ'=some r∧(Instr.sliceAt T (α a) (lo.map α) (hi.map α) none).run E.P w = .ok (sliced p l.toNat hb.toNat c t.width) w:=by
       intro t κ' h
       obtain ⟨hT',h⟩:=gf_ ht h
       obtain ⟨c0,c1,c2,h⟩:=mD_ h
       obtain ⟨i,z,zs,zc,hi',hz,hsize,_⟩:=(tcs t).info
       refine ⟨c0,c1,c2,h,?_⟩
       rw [hV,←hsize]
       exact jp_ hT' hi' bl bh c0 c1 c2 hc
      cases v<;>(try simp only at h)<;>(try (cases h;done))
      case s s=>
       rw [hv.s] at hV
       cases hV
      case sl m t xs=>
       cases m<;>simp only at h<;>(try (cases h;done))
       obtain ⟨c0,c1,c2,hk,hr⟩:=key h
       refine val hr (Goes.same hM hk ?_ bR_)
       have hf:=hv.rf (by intro cs e;cases e) (by intro cs e;cases e) (by intro f cs e;cases e)
       rw [hV] at hf
       cases hf with
       |scal _ _ _ _ _ hs _=>exact hs.elim
       |own _ _ _ _ _ _ _ _ _ _ hm=>exact absurd rfl hm
       |view _ _ _ _ _ vals z _ _ _ hn h1 hz hb' _=>
        have hl2:hb.toNat≤xs.length:=by have:=hn.1;omega
        have hp:=h1.rows_part hz (show l.toNat≤hb.toNat by omega) hl2
        have hcl:l.toNat<hb.toNat→¬ c=l.toNat:=by intro h;omega
        have hpl:0<hb.toNat - l.toNat→0<len∧l.toNat<hb.toNat:=by intro h;omega
        refine .flat _ _ (.inl (RL.view t _ _ _ _ _ _ _ _ _ ⟨by rw [List.length_drop,List.length_take];omega,by omega⟩ hp (fun _=>rfl) (fun hpos => ?_) (.nil _ fun _=>rfl)))
        obtain ⟨b,o',rfl,hr',hlt,hF⟩:=hb' (hpl hpos).1
        have:=hcl (hpl hpos).2
        refine ⟨b,o'+l.toNat*t.width,by rw [if_neg this];simp [Addr.add_mid],c1_ hr' _ _,hlt,hF⟩
      case rt q=>
       cases hq:x.h q with
       |none=>rw [hq] at h;cases h
       |some blk=>
        rw [hq] at h
        cases blk with
        |box=>cases h
        |ext=>cases h
        |arr m t st xs=>
         obtain ⟨c0,c1,c2,hk,hr⟩:=key h
         have hf:=hv.rf (by intro cs e;cases e) (by intro cs e;cases e) (by intro f cs e;cases e)
         have hsv:=hf.2 _ _ _ _ (.arr hq)
         obtain ⟨hm,how,_⟩:=hM.root q _ hq
         have hlx:len=xs.length:=by
          rw [hV] at hsv
          obtain ⟨p',c',e1,_⟩:=iv_ how
          rw [e1] at hsv
          cases hsv;rfl
         refine val hr (Goes.same hM hk (.flat _ _ (.inl ⟨rfl,fun m' t' st' xs' hq' => ?_⟩)) ?_)
         · replace hq':=hq'.known hq
           rw [hq] at hq'
           cases hq'
           refine ⟨p,len,c,_,_,by rw [←hsv,hV],by omega,by omega,by omega,rfl,fun hlt => ?_⟩
           rcases how.2 with ⟨_,e0⟩|⟨g,cap,cur,e1,_⟩
           · omega
           · rw [←hsv,hV] at e1
             cases e1
             have:¬ c=l.toNat:=by omega
             exact ⟨g,rfl,by rw [if_neg this];simp [Addr.add_mid]⟩
         · intro z hz
           simp only [AV.refsT,AV.refsD,AV.refs,List.mem_singleton] at hz
           subst hz
           exact hM.used _ _ hq
      case sr q lo' hi'=>
       cases hq:x.h q with
       |none=>rw [hq] at h;cases h
       |some blk=>
        rw [hq] at h
        cases blk with
        |box=>cases h
        |ext=>cases h
        |arr m t st xs=>
         obtain ⟨c0,c1,c2,hk,hr⟩:=key h
         have hf:=hv.rf (by intro cs e;cases e) (by intro cs e;cases e) (by intro f cs e;cases e)
         obtain ⟨p0,n0,cc,p',c',hsv,hlh,hhi',hcc,hV',hpos⟩:=hf.2 _ _ _ _ (.arr hq)
         rw [hV] at hV'
         cases hV'
         refine val hr (Goes.same hM hk (.flat _ _ (.inl ⟨rfl,fun m' t' st' xs' hq' => ?_⟩)) ?_)
         · replace hq':=hq'.known hq
           rw [hq] at hq'
           cases hq'
           have e2:lo'+hb.toNat - (lo'+l.toNat)=hb.toNat - l.toNat:=by omega
           refine ⟨p0,n0,cc,_,c - l.toNat,hsv,by omega,by omega,by rw [e2];omega,by rw [e2];rfl,fun hlt => ?_⟩
           have hlt':lo'+l.toNat<lo'+hb.toNat:=hlt
           have hgt:lo'<hi':=by omega
           obtain ⟨g,e3,rfl⟩:=hpos hgt
           have:¬ c=l.toNat:=by omega
           exact ⟨g,e3,by rw [if_neg this];simp [Addr.add_mid,Nat.add_mul]⟩
         · intro z hz
           simp only [AV.refsT,AV.refsD,AV.refs,List.mem_singleton] at hz
           subst hz
           exact hM.used _ _ hq
end
end Go.Pi
end
section
namespace Go.Pi
theorem fill_set (cur us:List Value) (off:Nat) (h:off+us.length≤cur.length) :
  us.toArray.zipIdx.foldl (fun cs (x:Value × Nat)=>cs.setIfInBounds (off+x.2) x.1) cur.toArray=(cur.take off++us++cur.drop (off+us.length)).toArray:=by
 obtain ⟨g1,g2⟩:=Great.foldl_set off us 0 cur.toArray
 have e:us.toArray.zipIdx.foldl (fun cs (x:Value × Nat)=>cs.setIfInBounds (off+x.2) x.1) cur.toArray=(us.zipIdx 0).foldl (fun cs (x:Value × Nat)=>cs.setIfInBounds (off+x.2) x.1) cur.toArray:=by
  rw [←Array.foldl_toList,Array.toList_zipIdx]
 rw [e]
 apply Array.ext_getElem?
 intro k
 rw [g2 k]
 simp only [Nat.add_zero,List.size_toArray,List.getElem?_toArray]
 by_cases h1:k<off
 · rw [if_neg (by omega),List.append_assoc,List.getElem?_append_left (by rw [List.length_take];omega),List.getElem?_take_of_lt h1]
 · by_cases h2:k<off+us.length
   · rw [if_pos ⟨by omega,h2,by omega⟩,List.append_assoc,List.getElem?_append_right (by rw [List.length_take];omega),List.length_take,Nat.min_eq_left (by omega),List.getElem?_append_left (by omega)]
   · rw [if_neg (by omega),List.append_assoc,List.getElem?_append_right (by rw [List.length_take];omega),List.length_take,Nat.min_eq_left (by omega),List.getElem?_append_right (by omega),List.getElem?_drop]
     congr 1;omega
variable [ao_]
open ao_
variable {ω:Type}
variable {E:Env} {x:X} {w w':World} {G:av_} {κ:X→AV→Option ω} {r:ω} {o:Oper} {α:Operand→Value}
def kU_ (E:Env) (w:World) (x:X) (G:av_):List (Nat × AV)→List (Nat × Value)→Prop
 |[],[]=>True
 |(i,a)::l,(j,v)::r=>i=j∧RT E w x G a v∧kU_ E w x G l r
 |_,_=>False
theorem fill_ok {fields:List (Nat × Nat)} {place:Nat→Option (Nat × Nat)} (hp:∀ (i off n:Nat),fields[i]?=some (off,n)→place i=some (off,n)):∀ (l:List (Nat × AV)) (vs:List (Nat × Value)) (cs:List AV) (us:List Value) (cs':List AV),
  kU_ E w x G l vs→AllF (RF E w x G) cs us→fill fields cs l=some cs'→∃ us',Instr.fill place us.toArray vs=some (List.toArray us')∧AllF (RF E w x G) cs' us'
 |[],[],cs,us,cs',_,hall,h=>by
  simp only [fill,Option.some.injEq] at h
  subst h
  exact ⟨us,rfl,hall⟩
 |(i,a)::l,(j,v)::vs,cs,us,cs',⟨hij,hv,hl⟩,hall,h=>by
  subst hij
  simp only [fill] at h
  cases hf:fields[i]? with
  |none=>rw [hf] at h;cases h
  |some p=>
   obtain ⟨off,n⟩:=p
   rw [hf] at h
   simp only at h
   cases hc:(Nat.beq a.cells.length n&&a.cells.all AV.one&&Nat.ble (off+n) cs.length) with
   |false=>rw [hc] at h;cases h
   |true=>
    rw [hc] at h
    simp only [cond_true] at h
    simp only [Bool.and_eq_true] at hc
    obtain ⟨⟨c1,c2⟩,c3⟩:=hc
    have c1:=Nat.eq_of_beq_eq_true c1
    have c3:=Nat.le_of_ble_eq_true c3
    obtain ⟨ws,ew,hws⟩:=hv.cells c2
    have hlen:ws.length=n:=hws.len.trans c1
    have hlus:us.length=cs.length:=hall.len
    have h2:=hall.setRange off hws (by omega)
    obtain ⟨us',e1,e2⟩:=fill_ok hp l vs _ _ cs' hl h2 h
    refine ⟨us',?_,e2⟩
    unfold Instr.fill
    rw [hp i off n hf]
    simp only
    rw [ew]
    rw [if_neg (by simp;omega)]
    rw [fill_set us ws off (by omega)]
    exact e1
 |[],_::_,_,_,_,h,_,_=>h.elim
 |_::_,[],_,_,_,h,_,_=>h.elim
def lV_ (x:X) (l:List (Nat × AV)):Prop:=∀ p ∈ l,Used x p.2.refsT
omit [ao_] in
theorem lE_:∀ (fields:List (Nat × Nat)) (l:List (Nat × AV)) (cs cs':List AV),lV_ x l→Used x (cs.flatMap AV.refs)→fill fields cs l=some cs'→Used x (cs'.flatMap AV.refs)
 |fields,[],cs,cs',_,hu,h=>by
  simp only [fill,Option.some.injEq] at h
  subst h;exact hu
 |fields,(i,a)::l,cs,cs',hp,hu,h=>by
  simp only [fill] at h
  cases hf:fields[i]? with
  |none=>rw [hf] at h;cases h
  |some p=>
   obtain ⟨off,n⟩:=p
   rw [hf] at h
   simp only at h
   cases hc:(Nat.beq a.cells.length n&&a.cells.all AV.one&&Nat.ble (off+n) cs.length) with
   |false=>rw [hc] at h;cases h
   |true=>
    rw [hc] at h
    simp only [cond_true] at h
    simp only [Bool.and_eq_true] at hc
    refine lE_ fields l _ cs' (fun p hp'=>hp p (List.mem_cons_of_mem _ hp')) ?_ h
    intro z hz
    obtain ⟨c,hc1,hc2⟩:=List.mem_flatMap.1 hz
    rcases fQ_ _ _ _ _ hc1 with h3|h3
    · exact hu z (List.mem_flatMap.2 ⟨c,h3,hc2⟩)
    · exact hj_ (hp _ (List.mem_cons_self ..)) hc.1.2 z (List.mem_flatMap.2 ⟨c,h3,hc2⟩)
section
variable (hM:Mem E x w G)
include hM
omit hM in
theorem nI_ {a V} (hv:RT E w x G a V) {k:Option ω} (h:fJ_ x a k=some r):k=some r∧∃ b off,V = .pointer (some ⟨b,off,none⟩):=by
 cases a<;>simp only [fJ_] at h<;>(try (cases h;done))
 case pb q off=>
  have hf:=hv.rf (by intro cs e;cases e) (by intro cs e;cases e) (by intro f cs e;cases e)
  cases hq:x.h q with
  |none=>rw [hq] at h;cases h
  |some blk=>
   rw [hq] at h
   cases blk with
   |arr=>cases h
   |ext=>cases h
   |box cs=>exact ⟨h,_,_,hf.2 cs hq⟩
 case pe q i off=>
  have hf:=hv.rf (by intro cs e;cases e) (by intro cs e;cases e) (by intro f cs e;cases e)
  cases hq:x.h q with
  |none=>rw [hq] at h;cases h
  |some blk=>
   rw [hq] at h
   cases blk with
   |box=>cases h
   |ext=>cases h
   |arr m t st xs=>
    obtain ⟨_,g,n,c,_,e⟩:=hf.2 _ _ _ _ (.arr hq)
    exact ⟨h,_,_,e⟩
 case pc cs off=>
  have hf:=hv.rf (by intro cs e;cases e) (by intro cs e;cases e) (by intro f cs e;cases e)
  cases hf with
  |scal _ _ _ _ _ hs _=>exact hs.elim
  |pc=>exact ⟨h,_,_,rfl⟩
theorem mt_ {a v} (ho:o.op = .nilCheck a) (hv:RT E w x G v (α a)) (hau:Used x v.refsT) (h:fJ_ x v (κ x v)=some r):bm_ E o α κ r x w G:=by
 obtain ⟨hk,b,off,e⟩:=nI_ hv h
 exact bm_.value (V:=α a) (w':=w) (by simp [execOp,ho,e]) (Goes.same hM hk hv hau)
theorem lC_ {T td a f v off n} (ht:TDok E T td) (ho:o.op = .fieldAddr T a f) (hv:RT E w x G v (α a)) (hau:Used x v.refsT) (hf:td.fields[f]?=some (off,n))
  (h:fJ_ x v (match v with | .pb r o=>κ x (.pb r (o+off)) | .pe r i o=>κ x (.pe r i (o+off)) | .pc cs o=>κ x (.pc cs (o+off))|_=>none)=some r):bm_ E o α κ r x w G:=by
 obtain ⟨hk,b,off',e⟩:=nI_ hv h
 clear h
 obtain ⟨fs,hT,hlen,hfs⟩:=ht.fields (by intro h0;rw [h0] at hf;simp at hf)
 obtain ⟨fd,h1,h2,h3,h4⟩:=hfs f off n hf
 have hne:∀ i:TypeInfo,E.P.info? fd.type=some i→i.size≠0:=fun i hi=>by rw [hi] at h3;simp at h3;omega
 have hr:(Instr.fieldAt T (α a) f).run E.P w = .ok (.pointer (some ⟨b,off'+off,none⟩)) w:=by
  cases hi:E.P.info? fd.type with
  |none=>rw [hi] at h3;cases h3
  |some i=>simp [Instr.fieldAt,run_underlying hT,h1,e,Instr.sureAddr,fieldPlace,sizeOf,typeInfo,hi,hne i hi,h2,Addr.add_mid]
 have val:∀ {V},V = .pointer (some ⟨b,off'+off,none⟩)→Goes E κ r x w G V w→bm_ E o α κ r x w G:=fun e hg=>by subst e;exact bm_.value (by simp [execOp,ho,hr]) hg
 cases v<;>simp only at hk<;>(try (cases hk;done))
 case pb q o'=>
  have hff:=hv.rf (by intro cs e;cases e) (by intro cs e;cases e) (by intro f cs e;cases e)
  refine val rfl (Goes.same hM hk (.flat _ _ (.inl ⟨rfl,fun cs hq => ?_⟩)) hau)
  have:=hff.2 cs hq
  rw [e] at this
  cases this;rfl
 case pe q i o'=>
  have hff:=hv.rf (by intro cs e;cases e) (by intro cs e;cases e) (by intro f cs e;cases e)
  refine val rfl (Goes.same hM hk (.flat _ _ (.inl ⟨rfl,fun m t st xs hq => ?_⟩)) hau)
  obtain ⟨hi,g,n',c,hsv,e'⟩:=hff.2 _ _ _ _ hq
  rw [e] at e'
  cases e'
  exact ⟨hi,b,n',c,hsv,by rw [Nat.add_assoc]⟩
 case pc cs o'=>
  have hff:=hv.rf (by intro cs e;cases e) (by intro cs e;cases e) (by intro f cs e;cases e)
  rw [e] at hff
  cases hff with
  |scal _ _ _ _ _ hs _=>exact hs.elim
  |pc _ b' ob _ vals z _ _ _ h1 hz hr' hlt hF _=>
   refine val rfl (Goes.same hM hk ?_ hau)
   rw [Nat.add_assoc]
   exact .flat _ _ (.inl (RL.pc cs b ob (o'+off) vals z _ _ _ h1 hz hr' hlt hF (.nil _ fun _=>rfl)))
theorem go_build {T td parts} (ht:TDok E T td) (ho:o.op = .build T parts) {l:List (Nat × AV)} (hl:kU_ E w x G l (parts.toList.map fun p=>(p.1,α p.2))) (hlu:lV_ x l) {cs} (hf:fill td.fields td.zero l=some cs) (hagg:td.agg=true) (hk:κ x (.ag cs)=some r):bm_ E o α κ r x w G:=by
 obtain ⟨h1,h2,i,z,zs,hi,hz,hzs,hall⟩:=ht.zero
 obtain ⟨fs,hT,hlen,hfs⟩:=ht.fields (ht.struct hagg)
 have hsz:∀ (k:Nat) (f:Field),fs[k]?=some f→∃ n,td.fields[k]?=some (f.offset,n)∧(E.P.info? f.type).map (·.size)=some n:=fun k f hk=>by
  have hlt:k<td.fields.length:=by have:=(Array.getElem?_eq_some_iff.1 hk).1;omega
  obtain ⟨fd,e1,e2,e3,_⟩:=hfs k (td.fields[k].1) (td.fields[k].2) (by rw [List.getElem?_eq_getElem hlt])
  rw [hk] at e1
  cases e1
  exact ⟨td.fields[k].2,by rw [List.getElem?_eq_getElem hlt,e2],e3⟩
 have hplaces:fs.toList.mapM (fun f=>(E.P.info? f.type).map fun i=>(f.offset,i.size))=some td.fields:=by
  have key:∀ (l:List Field) (ps:List (Nat × Nat)),l.length=ps.length→(∀ (k:Nat) (f:Field),l[k]?=some f→∃ n,ps[k]?=some (f.offset,n)∧(E.P.info? f.type).map (·.size)=some n)→l.mapM (fun f=>(E.P.info? f.type).map fun i=>(f.offset,i.size))=some ps:=by
   intro l
   induction l with
   |nil=>intro ps h _;cases ps with
    |nil=>rfl
    |cons=>simp at h
   |cons f l ih=>
    intro ps h hk
    cases ps with
    |nil=>simp at h
    |cons p ps=>
     obtain ⟨n,e1,e2⟩:=hk 0 f rfl
     have:=ih ps (by simpa using h) fun k f' h'=>by
      have:=hk (k+1) f' (by simpa using h')
      simpa using this
     simp only [List.getElem?_cons_zero,Option.some.injEq] at e1
     subst e1
     cases hif:E.P.info? f.type with
     |none=>rw [hif] at e2;cases e2
     |some i=>
      rw [hif] at e2
      simp only [Option.map_some,Option.some.injEq] at e2
      rw [List.mapM_cons,this,hif]
      simp [e2]
  exact key _ _ (by simpa using hlen) fun k f h=>hsz k f (by simpa using h)
 obtain ⟨us',e1,e2⟩:=fill_ok (w:=w) (x:=x) (G:=G) (E:=E) (fields:=td.fields) (place:=fun k=>td.fields.toArray[k]?) (fun i off n h=>by simpa using h) l _ td.zero zs cs hl (hall.mono fun a v _ h=>RF.of_scl h) hf
 have hb:E.P.built T (parts.map fun (i,x)=>(i,α x)).toList=some (List.toArray us'):=by
  unfold Program.built
  simp only [hT,hi,hz,hplaces]
  rw [hzs,Array.toList_map]
  exact e1
 refine bm_.value (V:=.agg (List.toArray us')) (w':=w) (by simp [execOp,ho,run_build w T _ _ hb]) (Goes.same hM hk (.flat _ _ (.inr ⟨cs,us',rfl,rfl,e2⟩)) ?_)
 exact lE_ td.fields l td.zero cs hlu (by rw [hall.scl_refs];exact bR_) hf
theorem mu_ {f caps} (ho:o.op = .makeFunc (.func f) #[] caps) {l:List AV} (hl:AllF (RT E w x G) l (caps.toList.map α)) (hlu:∀ a ∈ l,Used x a.refsT) (h1:l.all AV.one=true) (hk:κ x (.clo f l)=some r):bm_ E o α κ r x w G:=by
 have key:∀ {l us},AllF (RT E w x G) l us→l.all AV.one=true→AllF (RF E w x G) l us:=by
  intro l us h h1
  have:∀ a v,a ∈ l→RT E w x G a v→RF E w x G a v:=fun a v ha h=>by
   have h2:=(List.all_eq_true.1 h1) a ha
   exact h.rf (fun cs e=>by subst e;simp [AV.one] at h2) (fun cs e=>by subst e;simp [AV.one] at h2) (fun f cs e=>by subst e;simp [AV.one] at h2)
  exact h.mono this
 refine bm_.value (V:=.func (.func f) #[] (List.toArray (caps.toList.map α))) (w':=w) ?_ (Goes.same hM hk (.clo f l _ (key hl h1)) ?_)
 · simp [execOp,ho,Instr.makeFunc]
   apply Array.toList_inj.1;simp
 · intro z hz
   obtain ⟨a,ha,hz⟩:=List.mem_flatMap.1 hz
   refine hlu a ha z ?_
   have h2:=(List.all_eq_true.1 h1) a ha
   cases a<;>first|exact hz|(simp [AV.one] at h2)
theorem go_max {k k' n m} {a b:Operand} {ts} (ho:o.op = .call { callee:=.builtin .max,args:=#[a,b],argTypes:=ts }) (ha:α a = .int k n) (hb:α b = .int k' m) (hk:κ x (.i k (cond (decide (m > n)) m n))=some r):bm_ E o α κ r x w G:=by
 refine bm_.value (V:=.int k (if n<m then m else n)) (w':=w) ?_ (Goes.same hM hk (RT.scl ?_) bR_)
 · have hr:(Builtin.max_ ts o.type #[α a,α b]).run E.P w = .ok (.int k (if n<m then m else n)) w:=by
    rw [ha,hb]
    by_cases h:n<m
    · simp [Builtin.max_,Builtin.max2,h]
    · simp [Builtin.max_,Builtin.max2,h]
   unfold execOp
   simp only [ho,resolve,invoke,builtin,Sem.run_bind,Sem.run_pure,Result.andThen_ok,List.map_toArray,List.map_cons,List.map_nil,hr]
 · show _=Value.int k _
   by_cases h:n<m<;>simp [h]
theorem go_min {k k' n m} {a b:Operand} {ts} (ho:o.op = .call { callee:=.builtin .min,args:=#[a,b],argTypes:=ts }) (ha:α a = .int k n) (hb:α b = .int k' m) (hk:κ x (.i k (cond (decide (m<n)) m n))=some r):bm_ E o α κ r x w G:=by
 refine bm_.value (V:=.int k (if m<n then m else n)) (w':=w) ?_ (Goes.same hM hk (RT.scl ?_) bR_)
 · have hr:(Builtin.min_ ts o.type #[α a,α b]).run E.P w = .ok (.int k (if m<n then m else n)) w:=by
    rw [ha,hb]
    by_cases h:m<n
    · simp [Builtin.min_,Builtin.min2,h]
    · simp [Builtin.min_,Builtin.min2,h]
   unfold execOp
   simp only [ho,resolve,invoke,builtin,Sem.run_bind,Sem.run_pure,Result.andThen_ok,List.map_toArray,List.map_cons,List.map_nil,hr]
 · show _=Value.int k _
   by_cases h:m<n<;>simp [h]
end
end Go.Pi
end
section
namespace Go.Pi
theorem j2_:∀ (ns:List Int) (r:ByteArray),ns.foldl (fun r n=>r.push (UInt8.ofNat n.toNat)) r=⟨r.data++(ns.map fun n=>UInt8.ofNat n.toNat).toArray⟩
 |[],r=>by simp
 |n::ns,r=>by
  simp only [List.foldl_cons]
  rw [j2_ ns]
  simp [ByteArray.push]
theorem run_bytes {P:Program} {w:World} {src dst e:TypeId} (hs:P.underlying src=some (.slice e)) (he:P.underlying e=some (.int .u8)) (hd:P.underlying dst=some .string) {V:Value} {ns:List Int}
  (h:(∃ a c,V = .slice (some a) ns.length c∧∀ j u,(ns.map (Value.int .u8))[j]?=some u→w.cell? (a.add j)=some u)∨(∃ c,V = .slice none 0 c∧ns=[])) :
  (convert src dst V).run P w = .ok (.string ⟨(ns.map fun n=>UInt8.ofNat n.toNat).toArray⟩) w:=by
 rcases h with ⟨a,c,rfl,h⟩|⟨c,rfl,rfl⟩
 · rw [run_convert_bytes_string w src dst e (some a) ns.length c hs he hd]
   have hl:=run_loadCells_list (P:=P) w a (ns.map (Value.int .u8)) h
   simp only [List.length_map] at hl
   rw [run_bytesToString w a ns.length c _ hl,j2_]
   have he0:ByteArray.empty.data = #[]:=rfl
   rw [he0]
   simp
 · rw [run_convert_bytes_string w src dst e none 0 c hs he hd]
   simp [Conv.bytesToString]
   rfl
variable [ao_]
open ao_
variable {ω:Type}
variable {E:Env} {x:X} {w w':World} {G:av_} {κ:X→AV→Option ω} {r:ω} {o:Oper} {α:Operand→Value}
def ints (xs:List (El .u8)):List Int:=xs
theorem l7_ [aq_] {F:Nat→Prop} {m:M}:∀ {xs:List (El .u8)} {vals φ},RL E w F (aV_ m .u8 xs) vals φ→vals=(ints xs).map (Value.int .u8)
 |[],vals,φ,h=>by obtain ⟨rfl,_⟩:=RL.nil_inv h;rfl
 |x::xs,vals,φ,h=>by
  have e:aV_ m .u8 (x::xs) = .i .u8 (show Int from x)::aV_ m .u8 xs:=by
   show enc m .u8 x++aV_ m .u8 xs=_
   rw [aq_.u8];rfl
  rw [e] at h
  obtain ⟨v,vs,φ₁,φ₂,rfl,h1,h2,_⟩:=RL.uncons h
  have h3:=l7_ h2
  cases h1 with
  |scal _ _ _ _ _ hs _=>
   have hs:v = .int .u8 (show Int from x):=hs
   subst hs
   rw [h3];rfl
section
variable (hM:Mem E x w G)
include hM
theorem go_conv [aq_] {T T' a v} {ty ty'} (ht:TTok E T ty) (ht':TTok E T' ty') (h8:E.P.underlying (E.eid .u8)=some (.int .u8)) (ho:o.op = .convert T T' a) (hv:RT E w x G v (α a)) (h:fH_ ty ty' x v (κ x)=some r):bm_ E o α κ r x w G:=by
 unfold fH_ at h
 cases ty with
 |none=>cases h
 |some e=>
  cases ty' with
  |none=>cases h
  |some d=>
   simp only at h
   have he:=ht.ok e rfl
   have hd:=ht'.ok d rfl
   have str:∀ {ns:List Int},d.isStr=true→e.elem=some .u8→(∃ p c,α a = .slice (some p) ns.length c∧∀ j u,(ns.map (Value.int .u8))[j]?=some u→w.cell? (p.add j)=some u)∨(∃ c,α a = .slice none 0 c∧ns=[]) →
     κ x (.s (ns.map fun n=>UInt8.ofNat n.toNat))=some r→bm_ E o α κ r x w G:=by
    intro ns hs hel hV hk
    refine bm_.value (V:=.string ⟨(ns.map fun n:Int=>UInt8.ofNat n.toNat).toArray⟩) (w':=w) ?_ (Goes.same hM hk (RT.scl rfl) bR_)
    simp [execOp,ho,run_bytes (he.elem _ hel) h8 (hd.str hs) hV]
   split at h
   · rename_i hkd hke
     exact mv_ hM ho (hd.kind _ hkd) hv.i (he.kind _ hke) h
   · rename_i q hkd hs hel
     cases hq:x.h q with
     |none=>rw [hq] at h;cases h
     |some blk=>
      rw [hq] at h
      split at h
      · rename_i m st xs hb
        cases hb
        have hf:=hv.rf (by intro cs e;cases e) (by intro cs e;cases e) (by intro f cs e;cases e)
        have hsv:=hf.2 _ _ _ _ (.arr hq)
        obtain ⟨hm,how,ψ,hrl,_⟩:=hM.root q _ hq
        have hvals:=l7_ hrl
        refine str (ns:=ints xs) hs hel ?_ h
        rw [hsv]
        rcases own_val how with ⟨p,c,e1,e2⟩|⟨e1,e0⟩
        · exact .inl ⟨p,c,e1,by rw [←hvals];exact e2⟩
        · exact .inr ⟨0,e1,List.eq_nil_of_length_eq_zero e0⟩
      · cases h
   · rename_i xs hkd hs hel
     have hf:=hv.rf (by intro cs e;cases e) (by intro cs e;cases e) (by intro f cs e;cases e)
     generalize hV:α a=V at hf
     cases hf with
     |scal _ _ _ _ _ hs _=>exact hs.elim
     |own _ _ _ _ _ _ _ _ _ _ hm=>exact absurd rfl hm
     |view _ _ p n cap vals z _ _ _ hn h1 hz hb _=>
      have hvals:=l7_ h1
      refine str (ns:=ints xs) hs hel ?_ h
      rw [hV]
      have hn1:n=(ints xs).length:=hn.1
      by_cases h0:0<n
      · obtain ⟨b,o',rfl,hr,_⟩:=hb h0
        refine .inl ⟨_,cap,by rw [hn1],fun j u hj => ?_⟩
        rw [Addr.add_mid]
        exact hr j u (by rw [hvals];exact hj)
      · have hn0:n=0:=by omega
        have hnil:ints xs=[]:=List.eq_nil_of_length_eq_zero (by rw [←hn1];exact hn0)
        cases p with
        |none=>exact .inr ⟨cap,by rw [hn0],hnil⟩
        |some p=>
         refine .inl ⟨p,cap,by rw [hn1],fun j u hj => ?_⟩
         rw [hnil] at hj
         simp at hj
   · rename_i hkd hs hel
     exact str (ns:=[]) hs hel (.inr ⟨0,hv.nils,rfl⟩) h
   · cases h
end
end Go.Pi
end
section
namespace Go.Pi
variable [ao_]
open ao_
variable {E:Env} {x:X} {w:World} {G:av_} {ω:Type} {κ:X→AV→Option ω} {r:ω} {o:Oper} {α:Operand→Value}
omit [ao_] in
theorem iQ_ {P:Program} {d:Nat} {xs ys:Array Value} {f:Field} {fs:List Field} {a b:Value} {r s:Bool} (hn:(f.name == "_")=false) (ha:(part f.type xs f.offset).run P w = .ok a w) (hb:(part f.type ys f.offset).run P w = .ok b w) (he:(Op.equalIn d f.type a b).run P w = .ok r w) (hr:(Op.eqFields d xs ys fs).run P w = .ok s w):(Op.eqFields d xs ys (f::fs)).run P w = .ok (cond r s false) w:=by
 have hn':f.name ≠ "_" := by simpa using hn
 rw [Op.eqFields]
 simp only [if_pos hn',Sem.run_bind,ha,hb,he,Result.andThen_ok]
 cases r
 · simp
 · simpa using hr
theorem j5_ {fs:Array Field} {cmp:List CK} (hf:∀ (k:Nat) (f:Field) (q:CK),fs[k]?=some f→cmp[k]?=some q→(f.name == "_")=false∧f.offset=k∧E.P.plainKey f.type=true ∧
   match q with
   |.i=>∃ kk,E.P.underlying f.type=some (.int kk)
   |.b=>E.P.underlying f.type=some .bool
   |.s=>E.P.underlying f.type=some .string) (hsz:fs.size=cmp.length) {us vs:List Value}:∀ (ks:List CK) (l m:List AV) (us' vs':List Value) (k:Nat) (q:Bool),cmp.drop k=ks→us.drop k=us'→vs.drop k=vs' →
   AllF (RF E w x G) l us'→AllF (RF E w x G) m vs'→eE_ ks l m=some q→(Op.eqFields 9999 (List.toArray us) (List.toArray vs) (fs.toList.drop k)).run E.P w = .ok q w
 |[],[],[],us',vs',k,q,h1,h2,h3,hl,hm,h=>by
  simp only [eE_,Option.some.injEq] at h
  subst h
  have:cmp.length≤k:=by
   have:=congrArg List.length h1
   simp at this;omega
  rw [List.drop_eq_nil_of_le (by simp;omega)]
  simp [Op.eqFields]
 |c::ks,a::l,b::m,us',vs',k,q,h1,h2,h3,hl,hm,h=>by
  simp only [eE_] at h
  cases hq:eE_ ks l m with
  |none=>rw [hq] at h;cases h
  |some q'=>
   rw [hq] at h
   have hck:cmp[k]?=some c:=by
    have:(cmp.drop k)[0]?=some c:=by rw [h1];rfl
    simpa using this
   have hk:k<cmp.length:=(List.getElem?_eq_some_iff.1 hck).1
   have hfk:fs[k]?=some fs[k]:=by simp [hsz,hk]
   obtain ⟨n1,n2,n3,n4⟩:=hf k _ c hfk hck
   cases us' with
   |nil=>exact hl.elim
   |cons u us'=>
    cases vs' with
    |nil=>exact hm.elim
    |cons v vs'=>
     have huk:(List.toArray us)[k]?=some u:=by
      have:(us.drop k)[0]?=some u:=by rw [h2];rfl
      simpa using this
     have hvk:(List.toArray vs)[k]?=some v:=by
      have:(vs.drop k)[0]?=some v:=by rw [h3];rfl
      simpa using this
     have d1:cmp.drop (k+1)=ks:=by have:=congrArg List.tail h1;simpa [List.tail_drop] using this
     have d2:us.drop (k+1)=us':=by have:=congrArg List.tail h2;simpa [List.tail_drop] using this
     have d3:vs.drop (k+1)=vs':=by have:=congrArg List.tail h3;simpa [List.tail_drop] using this
     have ih:=j5_ hf hsz ks l m us' vs' (k+1) q' d1 d2 d3 hl.2 hm.2 hq
     have hdrop:fs.toList.drop k=fs[k]::fs.toList.drop (k+1):=by
      rw [List.drop_eq_getElem_cons (by simp;omega)]
      simp
     rw [hdrop]
     have p1:(part fs[k].type (List.toArray us) fs[k].offset).run E.P w = .ok u w:=run_part_plain w n3 (by rw [n2];exact huk)
     have p2:(part fs[k].type (List.toArray vs) fs[k].offset).run E.P w = .ok v w:=run_part_plain w n3 (by rw [n2];exact hvk)
     have ha:RT E w x G a u:=.flat _ _ (.inl hl.1)
     have hb:RT E w x G b v:=.flat _ _ (.inl hm.1)
     cases c with
     |i=>
      obtain ⟨kk,n4⟩:=n4
      cases a<;>simp only at h<;>(try (cases h;done))
      cases b<;>simp only at h<;>(try (cases h;done))
      rename_i k1 n1' k2 n2'
      by_cases hkk:k1=k2
      · subst hkk
        simp only [decide_true,cond_true,Option.some.injEq] at h
        subst h
        rw [ha.i] at p1
        rw [hb.i] at p2
        exact iQ_ n1 p1 p2 (run_equalIn_int w 9998 _ k1 kk _ _ n4) ih
      · simp [hkk] at h
     |b=>
      cases a<;>simp only at h<;>(try (cases h;done))
      cases b<;>simp only at h<;>(try (cases h;done))
      simp only [Option.some.injEq] at h
      subst h
      rw [ha.b] at p1
      rw [hb.b] at p2
      exact iQ_ n1 p1 p2 (run_equalIn_bool' w 9998 _ _ _ n4) ih
     |s=>
      cases a<;>simp only at h<;>(try (cases h;done))
      cases b<;>simp only at h<;>(try (cases h;done))
      rename_i s1 s2
      simp only [Option.some.injEq] at h
      subst h
      rw [ha.s] at p1
      rw [hb.s] at p2
      have:=run_equalIn_string (P:=E.P) w 9998 fs[k].type (hZ_ s1) (hZ_ s2) n4
      rw [mI_,mI_] at this
      exact iQ_ n1 p1 p2 this ih
 |[],_::_,_,_,_,_,_,_,_,_,_,_,h=>by simp [eE_] at h
 |[],[],_::_,_,_,_,_,_,_,_,_,_,h=>by simp [eE_] at h
 |_::_,[],_,_,_,_,_,_,_,_,_,_,h=>by simp [eE_] at h
 |_::_,_::_,[],_,_,_,_,_,_,_,_,_,h=>by simp [eE_] at h
omit [ao_] in
theorem io_ {P:Program} {T:TypeId} {ms} (hT:P.underlying T=some (.interface ms)) {v:Value} {q:Bool} (h1:q=true→v = .nilIface) (h2:q=false→∃ t u,v = .iface t u) (w:World) (d:Nat):(Op.equalIn (d+1) T v .nilIface).run P w = .ok q w:=by
 cases q with
 |true=>rw [h1 rfl];simp [Op.equalIn,run_underlying hT]
 |false=>obtain ⟨t,u,rfl⟩:=h2 rfl;simp [Op.equalIn,run_underlying hT]
theorem go_bin_er (hM:Mem E x w G) {T td op a b T'} (ht:TDok E T td) (ho:o.op = .binOp op T a b T') {q:Bool} (ha:RT E w x G (.er q) (α a)) (hb:RT E w x G .nili (α b)) (h:erEq (some td) (opC b) op (.er q) .nili (κ x)=some r):bm_ E o α κ r x w G:=by
 unfold erEq at h
 simp only at h
 cases hi:td.isIf&&opC b with
 |false=>simp [hi] at h
 |true=>
  simp only [hi,cond_true] at h
  simp only [Bool.and_eq_true] at hi
  obtain ⟨ms,hu⟩:=ht.iface hi.1
  have hc:∃ v,b = .const v:=by
   cases b<;>first|exact ⟨_,rfl⟩|(have:=hi.2;cases this)
  obtain ⟨cv,hcv⟩:=hc
  have e2:=hb.nili
  have heq:(Op.equalIn 10000 T (α a) .nilIface).run E.P w = .ok q w:=io_ hu ha.er.1 ha.er.2 w 9999
  have he:(Op.equal T (α a) .nilIface).run E.P w = .ok q w:=heq
  have hg:∀ t y,(eqGuard op t y b (α a) .nilIface).run E.P w = .ok () w:=fun t y=>by
   subst hcv
   cases q with
   |true=>rw [ha.er.1 rfl];cases op<;>simp [eqGuard]
   |false=>obtain ⟨t',u',e⟩:=ha.er.2 rfl;rw [e];cases op<;>simp [eqGuard]
  have hb':∀ op',(op' = .eql∨op' = .neq)→(binOp op' T (α a) .nilIface).run E.P w = .ok (.bool (match op' with | .neq => !q|_=>q)) w:=fun op' hop=>by
   cases q with
   |true=>
    have e:=ha.er.1 rfl
    rw [e] at he ⊢
    rcases hop with rfl|rfl<;>simp only [binOp,Sem.run_bind,he,Result.andThen_ok,Sem.run_pure]
   |false=>
    obtain ⟨t',u',e⟩:=ha.er.2 rfl
    rw [e] at he ⊢
    rcases hop with rfl|rfl<;>simp only [binOp,Sem.run_bind,he,Result.andThen_ok,Sem.run_pure]
  cases op<;>simp only at h<;>(try (cases h;done))
  · exact bm_.value (V:=.bool q) (by simp only [execOp,ho,e2,Sem.run_bind,hg,Result.andThen_ok,hb' _ (.inl rfl)];rfl) (Goes.same hM h (RT.scl rfl) bR_)
  · exact bm_.value (V:=.bool (!q)) (by simp only [execOp,ho,e2,Sem.run_bind,hg,Result.andThen_ok,hb' _ (.inr rfl)];rfl) (Goes.same hM h (RT.scl rfl) bR_)
theorem ob_ (hM:Mem E x w G) {T td op a b T'} (ht:TDok E T td) (ho:o.op = .binOp op T a b T') {xs ys:List AV} (ha:RT E w x G (.ag xs) (α a)) (hb:RT E w x G (.ag ys) (α b)) (h:mM_ (some td) op (.ag xs) (.ag ys) (κ x)=some r):bm_ E o α κ r x w G:=by
 obtain ⟨us,e1,h1⟩:=ha.ag
 obtain ⟨vs,e2,h2⟩:=hb.ag
 unfold mM_ at h
 simp only at h
 cases hcmp:td.cmp with
 |nil=>rw [hcmp] at h;cases h
 |cons k ks=>
  rw [hcmp] at h
  simp only at h
  obtain ⟨fs,f1,f2,f3,f4,f5⟩:=ht.cmp (by rw [hcmp];simp)
  cases hq:eE_ (k::ks) xs ys with
  |none=>rw [hq] at h;cases h
  |some q=>
   rw [hq] at h
   have hF:E.P.fieldsOf T=fs:=by simp [Program.fieldsOf,f1]
   have hrun:=j5_ (us:=us) (vs:=vs) f5 f4 (k::ks) xs ys us vs 0 q (by rw [hcmp];rfl) rfl rfl h1 h2 hq
   have heq:(Op.equalIn 10000 T (.agg (List.toArray us)) (.agg (List.toArray vs))).run E.P w = .ok q w:=by
    rw [run_equalIn_struct w 9999 T _ _ (by rw [hF];exact f1) f2,hF]
    simpa using hrun
   have hg:=run_eqGuard_agg (P:=E.P) w op T a b (List.toArray us) (List.toArray vs) f3
   cases op<;>simp only at h<;>(try (cases h;done))
   · exact bm_.value (V:=.bool q) (by simp only [execOp,ho,e1,e2,Sem.run_bind,hg,Result.andThen_ok,run_eql_struct,heq,Sem.run_pure]) (Goes.same hM h (RT.scl rfl) bR_)
   · exact bm_.value (V:=.bool (!q)) (by simp only [execOp,ho,e1,e2,Sem.run_bind,hg,Result.andThen_ok,run_neq_struct,heq,Sem.run_pure]) (Goes.same hM h (RT.scl rfl) bR_)
end Go.Pi
end
