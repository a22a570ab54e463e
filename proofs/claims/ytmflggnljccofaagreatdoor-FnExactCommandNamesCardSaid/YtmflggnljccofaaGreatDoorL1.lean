/- The abstract interpreter and its soundness, first part. Conditions: none. -/
import Derived.Calls
import Derived.WalkKit
import Derived.Lib.LaidTab
import Derived.Lib.ItoaNum
set_option linter.unusedVariables false
set_option linter.unusedSimpArgs false
namespace Go.Ab
inductive A where
 | any
 | undef
 | bool (b : Bool)
 | int (k : IntKind) (n : Int)
 | str (s : List UInt8)
 | agg (cs : List A)
 | sl (z : Nat) (xs : List A)
 | nils (z : Nat)
 | cst (v : Value)
 | tok (k z : Nat) (xs : List A)
 | view (r off len : Nat)
 | loc (r i c : Nat)
 | ptr (cs : List A) (c : Nat)
 | fn (f : Nat) (caps : List A)
 | tup (xs : List A)
 | own (z : Nat) (xs : List A)
 | iob (z : Nat) (xs : List A)
 | ios (z : Nat) (xs : List A)
 deriving Inhabited
def A.cells : A → List A
 | .agg cs => cs
 | a => [a]
mutual
def A.plain : A → Bool
 | .bool _ | .int _ _ | .str _ => true
 | .agg cs => A.plains cs
 | _ => false
def A.plains : List A → Bool
 | [] => true
 | a :: r => a.plain && A.plains r
end
structure Root where
 b : Bool
 z : Nat
 xs : List A
 deriving Inhabited
structure St where
 t : Nat → A
 r : Nat → Option Root
def tab (l : List (Nat × A)) (i : Nat) : A := (l.lookup i).getD .any
def rtab (l : List (Nat × Root)) (i : Nat) : Option Root := l.lookup i
inductive Opd where
 | t (i : Nat)
 | c (a : A)
 deriving Inhabited
inductive Conv where
 | int (k : IntKind)
 | same
 | bytesStr
 | strBytes (z : Nat)
 deriving Inhabited
inductive Kd where
 | b | i | s
 deriving Inhabited
inductive O where
 | mv (x : Opd)
 | asg (x : Opd)
 | pick (c a b : Opd)
 | alloc (z : Nat) (zero : A)
 | box (z : Nat) (x : Opd)
 | build (zero : List A) (parts : List (Nat × Nat × Opd))
 | bsl (z : Nat) (zero : A) (n : Nat) (parts : List (Nat × Opd))
 | ld (n : Option Nat) (a : Opd)
 | sto (n : Nat) (a v : Opd)
 | nilck (x : Opd)
 | bin (op : BinOp) (x y : Opd)
 | eqs (neq : Bool) (ks : List Kd) (x y : Opd)
 | eqb (neq : Bool) (x y : Opd)
 | un (op : UnOp) (x : Opd)
 | conv (k : Conv) (x : Opd)
 | fa (off : Nat) (x : Opd)
 | fld (off : Nat) (n : Option Nat) (x : Opd)
 | ia (z : Nat) (x i : Opd)
 | iaa (len z : Nat) (x i : Opd)
 | ix (x i : Opd)
 | ixa (len z : Nat) (n : Option Nat) (x i : Opd)
 | slc (z : Nat) (x : Opd) (lo hi : Option Opd)
 | slcs (x : Opd) (lo hi : Option Opd)
 | len (x : Opd)
 | lens (x : Opd)
 | app (z bytes : Nat) (s x : Opd)
 | max (xs : List Opd)
 | min (xs : List Opd)
 | mks (z bytes : Nat) (zero : A) (l c : Opd)
 | mkf (f : Nat) (caps : List Opd)
 | call (f : Opd) (args : List Opd)
 | ext (x : Opd) (i : Nat)
 deriving Inhabited
structure Op where
 d : Option Nat
 w : Bool
 o : O
 g : Option (Nat × Bool)
 pq : Bool
 av : List Nat
 deriving Inhabited
def Op.V (d : Nat) (o : O) : Op := ⟨some d,false,o,none,false,[]⟩
def Op.W (d : Nat) (o : O) : Op := ⟨some d,true,o,none,false,[]⟩
def Op.G (d : Nat) (o : O) (j : Nat) (b : Bool) : Op := ⟨some d,false,o,some (j,b),false,[]⟩
inductive C where
 | skip
 | reg (draw : Bool) (ops : List Op) (keep keepR : List Nat)
 | seq (a b : C)
 | cond (c : Opd) (a b : C)
 | block (id : Nat) (b : C)
 | loop (b : C)
 | exit (id : Nat)
 | ret
 | norm (keep keepR : List Nat) (b : C)
 | opn (n : Nat) (b : C)
 | stop
 deriving Inhabited
inductive Rs where
 | t (i : Nat)
 | cell (i : Nat) (n : Option Nat)
 deriving Inhabited
structure Fn where
 np : Nat
 io : List Bool
 res : List Rs
 own : List Bool
 body : C
 gone : List Nat := []
 deriving Inhabited
def Opd.v (st : St) : Opd → A
 | .t i => st.t i
 | .c a => a
def St.put (st : St) (d : Option Nat) (v : A) : St :=
 match d with
 | some d => { st with t := fun i => if i = d then v else st.t i }
 | none => st
def refs1 (r : Nat) : A → Bool
 | .view q _ _ | .loc q _ _ => q == r
 | _ => false
def refs (r : Nat) : A → Bool
 | .fn _ caps => caps.any (refs1 r)
 | .tup xs => xs.any (refs1 r)
 | .agg xs => xs.any (refs1 r)
 | a => refs1 r a
def isTok1 (k : Nat) : A → Bool
 | .tok j _ _ => j == k
 | _ => false
def St.map (f : A → A) (st : St) : St := { st with t := fun i => f (st.t i) }
def comps (f : A → A) : A → A
 | .tup xs => .tup (xs.map f)
 | .agg xs => .agg (xs.map f)
 | .fn g xs => .fn g (xs.map f)
 | a => f a
def kill1 (r : Nat) (a : A) : A := if refs1 r a then .any else a
def killTok1 (k : Nat) (a : A) : A := if isTok1 k a then .any else a
def St.kill (st : St) (r : Nat) : St := st.map (comps (kill1 r))
def St.killTok (st : St) (k : Nat) : St := st.map (comps (killTok1 k))
def St.setRoot (st : St) (r : Nat) (R : Option Root) : St := { st with r := fun i => if i = r then R else st.r i }
def oneV : Value → Bool
 | .pointer none | .map none | .nilFunc | .nilIface | .slice none 0 0 => true
 | _ => false
def pureC : A → Bool
 | .bool _ | .int .. | .str _ | .sl .. | .nils _ | .ptr .. => true
 | .cst v => oneV v
 | .fn _ caps => caps.isEmpty
 | _ => false
def pure : A → Bool
 | .agg cs => cs.all pureC
 | a => pureC a
def normC : A → A
 | .nils z => .sl z []
 | a => a
def normA : A → A
 | .agg cs => .agg (cs.map normC)
 | a => normC a
def dat (a : A) : Option A := if pure a then some (normA a) else none
def conv1 (r : Nat → Option Root) : A → Option A
 | .view q off n => (r q).map fun R => .sl R.z ((R.xs.drop off).take n)
 | .tok _ z xs => some (.sl z xs)
 | a => if pureC a then some (normC a) else none
def convs (r : Nat → Option Root) : List A → Option (List A)
 | [] => some []
 | a :: l => (conv1 r a).bind fun x => (convs r l).map fun xs => x :: xs
def toData1 (r : Nat → Option Root) : A → Option A
 | .loc q i c => (r q).bind fun R => (R.xs[i]?).bind fun x => (convs r x.cells).map fun cs => .ptr cs c
 | .agg cs => (convs r cs).map .agg
 | a => conv1 r a
def toDatas (r : Nat → Option Root) : List A → Option (List A)
 | [] => some []
 | a :: l => (toData1 r a).bind fun x => (toDatas r l).map fun xs => x :: xs
def anyTok : A → Bool
 | .tok .. => true
 | _ => false
def toData (r : Nat → Option Root) : A → Option A
 | .fn f caps => if caps.any anyTok then none else (toDatas r caps).map (.fn f)
 | a => toData1 r a
def unTok1 (k : Nat) : A → A
 | .tok j z xs => if j = k then .sl z xs else .tok j z xs
 | a => a
def unTok (k : Nat) : A → A := comps (unTok1 k)
def unRoot1 (r : Nat) (R : Root) : A → A
 | .view q off n => if q = r then .sl R.z ((R.xs.drop off).take n) else .view q off n
 | .loc q i c => if q = r then .any else .loc q i c
 | a => a
def unRoot (r : Nat) (R : Root) : A → A := comps (unRoot1 r R)
def gs : Nat := 1000000
def comp (a : A) (j : Nat) : A := (a.cells[j]?).getD .any
def St.pin1 (st : St) (i j : Nat) : Option St :=
 match comp (st.t i) j with
 | .tok k _ _ => some (st.map (unTok k))
 | .view q _ _ => (st.r q).bind fun R => if R.b then none else some ((st.map (unRoot q R)).setRoot q none)
 | _ => some st
def St.pinN (st : St) (i : Nat) : Nat → Option St
 | 0 => some st
 | n + 1 => (st.pinN i n).bind fun st1 => st1.pin1 i n
def St.put' (st : St) (i : Nat) (v : A) : St := { st with t := fun j => if j = i then v else st.t j }
def St.pin (st : St) (x : A) : Option (A × St) :=
 ((st.put' gs x).pinN gs x.cells.length).bind fun st1 => (dat (st1.t gs)).map fun v => (v,st1.put' gs .any)
def intA (op : BinOp) (k : IntKind) (a b : Int) : Option A :=
 match op with
 | .add => some (.int k (k.wrap (a + b)))
 | .sub => some (.int k (k.wrap (a - b)))
 | .mul => some (.int k (k.wrap (a * b)))
 | .quo => if b = 0 then none else some (.int k (k.wrap (a.tdiv b)))
 | .rem => if b = 0 then none else some (.int k (a.tmod b))
 | .and => some (.int k (k.wrap (BitVec.ofInt k.bits a &&& BitVec.ofInt k.bits b).toNat))
 | .or => some (.int k (k.wrap (BitVec.ofInt k.bits a ||| BitVec.ofInt k.bits b).toNat))
 | .xor => some (.int k (k.wrap (BitVec.ofInt k.bits a ^^^ BitVec.ofInt k.bits b).toNat))
 | .andNot => some (.int k (k.wrap (BitVec.ofInt k.bits a &&& ~~~ (BitVec.ofInt k.bits b)).toNat))
 | .eql => some (.bool (a == b))
 | .neq => some (.bool (a != b))
 | .lss => some (.bool (decide (a < b)))
 | .leq => some (.bool (decide (a ≤ b)))
 | .gtr => some (.bool (decide (a > b)))
 | .geq => some (.bool (decide (a ≥ b)))
 | _ => none
def shiftA (op : BinOp) (k : IntKind) (a b : Int) : Option A :=
 if b < 0 then none else
 match op with
 | .shl => some (.int k (k.wrap (a * 2 ^ (min b.toNat k.bits))))
 | .shr => some (.int k (a.fdiv (2 ^ (min b.toNat k.bits))))
 | _ => none
def strMax : Nat := 9223372036854775807
def strA (op : BinOp) (a b : List UInt8) : Option A :=
 match op with
 | .add => if a.length + b.length ≤ strMax then some (.str (a ++ b)) else none
 | .eql => some (.bool (a == b))
 | .neq => some (.bool (!(a == b)))
 | .lss => some (.bool (Op.bytesLess a b))
 | .leq => some (.bool (Op.bytesLess a b || a == b))
 | .gtr => some (.bool (!(Op.bytesLess a b || a == b)))
 | .geq => some (.bool (!Op.bytesLess a b))
 | _ => none
def eqCell : Kd → A → A → Option Bool
 | .b,.bool a,.bool b => some (a == b)
 | .i,.int k a,.int k' b => if k = k' then some (a == b) else none
 | .s,.str a,.str b => some (a == b)
 | _,_,_ => none
def eqCells : List Kd → List A → List A → Option Bool
 | [],[],[] => some true
 | k :: ks,a :: l,b :: m => (eqCell k a b).bind fun x => (eqCells ks l m).map fun y => x && y
 | _,_,_ => none
def isShift : BinOp → Bool
 | .shl | .shr => true
 | _ => false
def binA (op : BinOp) (x y : A) : Option A :=
 match x,y with
 | .int k a,.int k' b => if isShift op then shiftA op k a b else if k = k' then intA op k a b else none
 | .str a,.str b => strA op a b
 | _,_ => none
def unA (op : UnOp) (x : A) : Option A :=
 match op,x with
 | .neg,.int k n => some (.int k (k.wrap (0 - n)))
 | .not,.bool b => some (.bool !b)
 | _,_ => none
def max2A : A → A → Option A
 | .int k x,.int k' y => if k = k' then some (.int k (if y > x then y else x)) else none
 | _,_ => none
def min2A : A → A → Option A
 | .int k x,.int k' y => if k = k' then some (.int k (if y < x then y else x)) else none
 | _,_ => none
def foldA (f : A → A → Option A) : A → List A → Option A
 | a,[] => some a
 | a,b :: l => (f a b).bind fun c => foldA f c l
def bytesOf : List A → Option (List UInt8)
 | [] => some []
 | .int .u8 n :: l => (bytesOf l).map (UInt8.ofNat n.toNat :: ·)
 | _ => none
def elems (r : Nat → Option Root) : A → Option (Nat × List A)
 | .sl z xs => some (z,xs)
 | .tok _ z xs => some (z,xs)
 | .nils z => some (z,[])
 | .view q off n => (r q).map fun R => (R.z,(R.xs.drop off).take n)
 | _ => none
def lenA (r : Nat → Option Root) : A → Option Nat
 | .sl _ xs => some xs.length
 | .tok _ _ xs => some xs.length
 | .nils _ => some 0
 | .view q _ n => (r q).map fun _ => n
 | _ => none
def getCells (cs : List A) (c : Nat) : Option Nat → Option A
 | none => cs[c]?
 | some n => if c + n ≤ cs.length then some (.agg (((cs.drop c).take n).map normC)) else none
def setCells (cs : List A) (c : Nat) (vs : List A) : Option (List A) :=
 if c + vs.length ≤ cs.length then some (cs.take c ++ vs ++ cs.drop (c + vs.length)) else none
def reCell (old : A) (cs : List A) : A :=
 match old with
 | .agg _ => .agg cs
 | _ => cs.headD .any
def solid (r : Nat → Option Root) : A → Bool
 | .tok .. => true
 | .view q _ _ | .loc q _ _ => (r q).isSome
 | a => pureC a
def fillA (st : St) : List A → List (Nat × Nat × Opd) → Option (List A)
 | cs,[] => some cs
 | cs,(off,z,x) :: l => if (x.v st).cells.length = z ∧ (x.v st).cells.all (solid st.r) = true then (setCells cs off (x.v st).cells).bind fun cs' => fillA st cs' l else none
def fillS (st : St) (z : Nat) : List A → List (Nat × Opd) → Option (List A)
 | xs,[] => some xs
 | xs,(i,x) :: l =>
   (dat (x.v st)).bind fun v => if v.cells.length = z ∧ i < xs.length then fillS st z (xs.set i v) l else none
def noAgg : A → Bool
 | .agg _ => false
 | _ => true
def flatC (y : A) : Bool := y.cells.all noAgg
def lim : Nat := 1099511627776
abbrev CF := Nat → List A → Option (List A × List A)
def retok (d : Nat) : Nat → List A → List A
 | _,[] => []
 | j,.tok _ z xs :: l => .tok (8 * d + j) z xs :: retok d (j + 1) l
 | j,a :: l => a :: retok d (j + 1) l
def packR (d : Nat) (l : List A) : A :=
 match retok d 0 l with
 | [a] => a
 | l => .tup l
def isIob : A → Bool
 | .iob .. => true
 | _ => false
def lend1 (r : Nat → Option Root) : A → Option A
 | .view q off n => (r q).map fun R => .own R.z ((R.xs.drop off).take n)
 | a => if pureC a then some a else none
def lends (r : Nat → Option Root) : List A → Option (List A)
 | [] => some []
 | a :: l => (lend1 r a).bind fun x => (lends r l).map fun xs => x :: xs
def sub (q c : Nat) : Nat := 1000 * (q + 1) + c
def take1 (q c : Nat) (st : St) : A → Option (A × St)
 | .own z xs => if c < 1000 then some (.view (sub q c) 0 xs.length,(st.kill (sub q c)).setRoot (sub q c) (some ⟨false,z,xs⟩)) else none
 | a => if pureC a then some (a,st) else none
def takes (q : Nat) : Nat → St → List A → Option (List A × St)
 | _,st,[] => some ([],st)
 | c,st,a :: l => (take1 q c st a).bind fun (x,st1) => (takes q (c + 1) st1 l).map fun (xs,st2) => (x :: xs,st2)
def takeVar (st : St) (q : Nat) (z : Nat) (x : A) : Option St :=
 if q < 1000 ∧ x.cells.length ≤ 1000 then (takes q 0 ((st.kill q).setRoot q none) x.cells).map fun (cs,st1) => (st1.kill q).setRoot q (some ⟨true,z,[reCell x cs]⟩) else none
def St.absorb1 (st : St) (q c j : Nat) : Option (A × St) :=
 match comp (st.t gs) j with
 | .tok k z xs =>
   if c + j < 1000 then some (.view (sub q (c + j)) 0 xs.length,((st.killTok k).kill (sub q (c + j))).setRoot (sub q (c + j)) (some ⟨false,z,xs⟩)) else none
 | .view s off n =>
   if s = sub q (c + j) ∧ c + j < 1000 ∧ (st.r s).isSome = true then some (.view s off n,st)
   else (st.pin1 gs j).bind fun st1 => if pureC (comp (st1.t gs) j) then some (normC (comp (st1.t gs) j),st1) else none
 | .nils z => some (.nils z,st)
 | a => if pureC a then some (normC a,st) else none
def St.absorbs (st : St) (q c : Nat) : (j n : Nat) → Option (List A × St)
 | _,0 => some ([],st)
 | j,n + 1 => (st.absorb1 q c j).bind fun (x,st1) => (st1.absorbs q c (j + 1) n).map fun (xs,st2) => (x :: xs,st2)
def blank (e : A) (c n : Nat) : A := reCell e (e.cells.take c ++ List.replicate n .any ++ e.cells.drop (c + n))
def landR (st : St) (d : Option Nat) (rs : List A) : Option St :=
 match rs,d with
 | [.iob z [x]],some d => (takeVar st d z x).map fun st1 => st1.put (some d) (.loc d 0 0)
 | rs,d => if rs.any isIob then none else some (st.put d (packR (d.getD 0) rs))
def args0 (st : St) : List Opd → Option (List A)
 | [] => some []
 | x :: l => (toData st.r (x.v st)).bind fun a => (args0 st l).map fun r => a :: r
def resStay : A → Bool
 | .tok .. => true
 | a => a.plain
def owned1 : A → Bool
 | .view .. | .tok .. | .loc .. => true
 | _ => false
def owned : A → Bool
 | .fn _ caps => caps.any owned1
 | .agg cs => cs.any owned1
 | a => owned1 a
def evalV (cf : CF) (io : Nat → List Bool) (d : Option Nat) (st : St) : O → Option A
 | .mv x => some (x.v st)
 | .asg x => (match x.v st with | .tok .. | .nils _ => none | a => some a)
 | .pick c a b => (match c.v st with | .bool t => some (if t then a.v st else b.v st) | _ => none)
 | .build zero parts => (fillA st zero parts).map .agg
 | .bsl z zero n parts =>
   (match d with
    | some d => if n * z ≤ 16777216 ∧ zero.cells.length = z then (fillS st z (List.replicate n zero) parts).map fun xs => .tok (8 * d) z xs else none
    | none => none)
 | .ld n a =>
   (match a.v st with
    | .loc q i c => (st.r q).bind fun R => (R.xs[i]?).bind fun x => getCells x.cells c n
    | .ptr cs c => getCells cs c n
    | _ => none)
 | .nilck x =>
   (match x.v st with
    | .loc q i c => (st.r q).map fun _ => .loc q i c
    | .ptr cs c => some (.ptr cs c)
    | .fn f caps => some (.fn f caps)
    | _ => none)
 | .bin op x y => binA op (x.v st) (y.v st)
 | .eqs neq ks x y =>
   (match x.v st,y.v st with
    | .agg a,.agg b => (eqCells ks a b).map fun e => .bool (if neq then !e else e)
    | _,_ => none)
 | .eqb neq x y => (match x.v st,y.v st with | .bool a,.bool b => some (.bool (if neq then !(a == b) else a == b)) | _,_ => none)
 | .un op x => unA op (x.v st)
 | .conv k x =>
   (match k,x.v st with
    | .int k,.int _ n => some (.int k (k.wrap n))
    | .same,.str s => some (.str s)
    | .bytesStr,a => (elems st.r a).bind fun (z,xs) => if z = 1 then (bytesOf xs).map .str else none
    | .strBytes z,.str s => (match d with | some d => if z = 1 then some (.tok (8 * d) 1 (s.map fun b => .int .u8 b.toNat)) else none | none => none)
    | _,_ => none)
 | .fa off x =>
   (match x.v st with
    | .loc q i c => (st.r q).map fun _ => .loc q i (c + off)
    | .ptr cs c => some (.ptr cs (c + off))
    | _ => none)
 | .fld off n x => (match x.v st with | .agg cs => getCells cs off n | _ => none)
 | .ia z x i =>
   (match i.v st,x.v st with
    | .int _ n,.view q off len =>
      (st.r q).bind fun R => if 0 ≤ n ∧ n < (len : Int) ∧ R.z = z then some (.loc q (off + n.toNat) 0) else none
    | .int _ n,.sl z' xs => if 0 ≤ n ∧ z' = z then (xs[n.toNat]?).map fun x => .ptr x.cells 0 else none
    | _,_ => none)
 | .iaa len z x i =>
   (match i.v st,x.v st with
    | .int _ n,.loc q j c => if 0 ≤ n ∧ n < (len : Int) then (st.r q).map fun _ => .loc q j (c + n.toNat * z) else none
    | .int _ n,.ptr cs c => if 0 ≤ n ∧ n < (len : Int) then some (.ptr cs (c + n.toNat * z)) else none
    | _,_ => none)
 | .ix x i =>
   (match i.v st,x.v st with
    | .int _ n,.str s => if 0 ≤ n then (s[n.toNat]?).map fun b => .int .u8 b.toNat else none
    | _,_ => none)
 | .ixa len z n x i =>
   (match i.v st,x.v st with
    | .int _ j,.agg cs => if 0 ≤ j ∧ j < (len : Int) then getCells cs (j.toNat * z) n else none
    | _,_ => none)
 | .slcs x lo hi =>
   (match (lo.map (Opd.v st)).getD (.int .i64 0),hi.map (Opd.v st),x.v st with
    | .int _ l,some (.int _ h),.str s => if 0 ≤ l ∧ l ≤ h ∧ h ≤ (s.length : Int) then some (.str ((s.take h.toNat).drop l.toNat)) else none
    | .int _ l,none,.str s => if 0 ≤ l ∧ l ≤ (s.length : Int) then some (.str (s.drop l.toNat)) else none
    | _,_,_ => none)
 | .slc z x lo hi =>
   (match (lo.map (Opd.v st)).getD (.int .i64 0),hi.map (Opd.v st),x.v st with
    | .int _ l,some (.int _ h),.sl z' xs => if 0 ≤ l ∧ l ≤ h ∧ h ≤ (xs.length : Int) ∧ z' = z then some (.sl z' ((xs.take h.toNat).drop l.toNat)) else none
    | .int _ l,none,.sl z' xs => if 0 ≤ l ∧ l ≤ (xs.length : Int) ∧ z' = z then some (.sl z' (xs.drop l.toNat)) else none
    | .int _ l,some (.int _ h),.view q off n => (st.r q).bind fun R => if 0 ≤ l ∧ l ≤ h ∧ h ≤ (n : Int) ∧ R.z = z then some (.view q (off + l.toNat) (h.toNat - l.toNat)) else none
    | .int _ l,none,.view q off n => (st.r q).bind fun R => if 0 ≤ l ∧ l ≤ (n : Int) ∧ R.z = z then some (.view q (off + l.toNat) (n - l.toNat)) else none
    | _,_,_ => none)
 | .len x => (lenA st.r (x.v st)).map fun (n : Nat) => .int .i64 (n : Int)
 | .lens x => (match x.v st with | .str s => some (.int .i64 s.length) | _ => none)
 | .max xs => (match xs.map (Opd.v st) with | [] => none | a :: l => foldA max2A a l)
 | .min xs => (match xs.map (Opd.v st) with | [] => none | a :: l => foldA min2A a l)
 | .mks z bytes zero l c =>
   (match d,l.v st,c.v st with
    | some d,.int .i64 n,.int .i64 m =>
      if 0 ≤ n ∧ n ≤ m ∧ m < (lim : Int) ∧ bytes ≤ 256 ∧ zero.cells.length = z then some (.tok (8 * d) z (List.replicate n.toNat zero)) else none
    | _,_,_ => none)
 | .mkf f caps => if (caps.map (Opd.v st)).all fun x => solid st.r x && !anyTok x then some (.fn f (caps.map (Opd.v st))) else none
 | .call f args =>
   (match f.v st with
    | .fn g caps =>
      if (io g).any id then none else
      (args0 st args).bind fun as => (if caps.any anyTok then none else toDatas st.r caps).bind fun cs => (cf g (as ++ cs)).bind fun (rs,_) =>
        if (rs.all resStay || !((args.map (Opd.v st)).any owned || caps.any owned1)) && !rs.any isIob then some (packR (d.getD 0) rs) else none
    | _ => none)
 | .ext x i => (match x.v st with | .tup xs => xs[i]? | _ => none)
 | _ => none
def loanOf (st : St) : A → Option (Nat × A)
 | .loc q 0 0 => (st.r q).bind fun R =>
   match R.b,R.xs with
   | true,[x] => (lends st.r x.cells).map fun cs => (q,.iob R.z [reCell x cs])
   | _,_ => none
 | .view q 0 n => (st.r q).bind fun R => if n = R.xs.length ∧ R.b = false then some (q,.ios R.z R.xs) else none
 | _ => none
def rootOf1 : A → List Nat
 | .view q _ _ | .loc q _ _ => [q]
 | _ => []
def namesOf (r : Nat → Option Root) : A → List Nat
 | .view q _ _ => [q]
 | .loc q _ _ => q :: (match r q with | some R => R.xs.flatMap fun x => x.cells.flatMap rootOf1 | none => [])
 | _ => []
def names (r : Nat → Option Root) : A → List Nat
 | .fn _ cs | .agg cs | .tup cs => cs.flatMap (namesOf r)
 | a => namesOf r a
def only (r : Nat → Option Root) (ns : List Nat) : Nat → Option Root := fun i => if ns.contains i then r i else none
def less (r : Nat → Option Root) (ns : List Nat) : Nat → Option Root := fun i => if ns.contains i then none else r i
def loans (st : St) : List Bool → List A → Option (List (Option A) × List Nat × List Nat)
 | _,[] => some ([],[],[])
 | true :: bs,a :: l => (loanOf st a).bind fun (q,x) => (loans st bs l).map fun (xs,qs,ns) => (some x :: xs,q :: qs,names st.r a ++ ns)
 | bs,a :: l => (loans st bs.tail l).map fun (xs,qs,ns) => (none :: xs,qs,ns)
def args1 (st : St) : List (Option A) → List A → Option (List A)
 | some x :: xs,_ :: l => (args1 st xs l).map fun r => x :: r
 | none :: xs,a :: l => if owned a then none else (toData st.r a).bind fun x => (args1 st xs l).map fun r => x :: r
 | [],[] => some []
 | _,_ => none
def blanks (st : St) : List Nat → List A → Option St
 | [],[] => some st
 | q :: qs,.iob z [x] :: l => (st.r q).bind fun R =>
   (match R.b,R.xs with
    | true,[x0] => blanks { st with r := fun i => if i = q then some ⟨true,z,[reCell x (x.cells.map fun _ => .any)]⟩ else if (x0.cells.flatMap rootOf1).contains i then none else st.r i } qs l
    | _,_ => none)
 | q :: qs,.ios z xs :: l => blanks (st.setRoot q (some ⟨false,z,xs⟩)) qs l
 | q :: qs,.any :: l => blanks (st.setRoot q none) qs l
 | _,_ => none
def takeOuts (st : St) : List Nat → List A → Option St
 | [],[] => some st
 | q :: qs,.iob z [x] :: l => if x.cells.length ≤ 1000 then (takes q 0 st x.cells).bind fun (cs,st1) => takeOuts (st1.setRoot q (some ⟨true,z,[reCell x cs]⟩)) qs l else none
 | _ :: qs,.ios .. :: l => takeOuts st qs l
 | _ :: qs,.any :: l => takeOuts st qs l
 | _,_ => none
def giveBack (st : St) (qs : List Nat) (os : List A) : Option St := (blanks st qs os).bind fun st1 => takeOuts st1 qs os
def St.lay (st : St) (vs : List A) : St := { st with t := fun i => if gs ≤ i then (vs[i - gs]?).getD .any else st.t i }
def own3 (j : Nat) : Nat := 3000000 + j
def St.own1 (st : St) (j : Nat) : St :=
 match st.t (gs + j) with
 | .tok k z xs => (((st.killTok k).kill (own3 j)).setRoot (own3 j) (some ⟨false,z,xs⟩)).put' (gs + j) (.view (own3 j) 0 xs.length)
 | .nils z => ((st.kill (own3 j)).setRoot (own3 j) (some ⟨false,z,[]⟩)).put' (gs + j) (.view (own3 j) 0 0)
 | _ => st
def St.pinAll (st : St) : List Bool → (j n : Nat) → Option St
 | _,_,0 => some st
 | true :: bs,j,n + 1 => St.pinAll (st.own1 j) bs (j + 1) n
 | bs,j,n + 1 => (st.pinN (gs + j) (st.t (gs + j)).cells.length).bind fun st1 => St.pinAll st1 bs.tail (j + 1) n
def stepW (cf : CF) (io : Nat → List Bool) (d : Option Nat) (st : St) : O → Option St
 | .asg x =>
   (match d,x.v st with
    | some d,.tok k z xs => if d < 1000 then some ((((st.killTok k).kill d).setRoot d (some ⟨false,z,xs⟩)).put (some d) (.view d 0 xs.length)) else none
    | some d,.nils z => if d < 1000 then some (((st.kill d).setRoot d (some ⟨false,z,[]⟩)).put (some d) (.view d 0 0)) else none
    | d,a => some (st.put d a))
 | .alloc z zero =>
   (match d with
    | some d => if zero.cells.length = z ∧ d < 1000 ∧ zero.cells.all pureC then some (((st.kill d).setRoot d (some ⟨true,z,[zero]⟩)).put (some d) (.loc d 0 0)) else none
    | none => none)
 | .box z x =>
   (match d with
    | some d =>
      if d < 1000 ∧ z ≤ 1000 ∧ (x.v st).cells.length = z ∧ (x.v st).cells.all (solid st.r) = true then
       ((((st.put' gs (x.v st)).kill d).setRoot d none).absorbs d 0 0 z).map fun (cs,st1) =>
         (((st1.put' gs .any).kill d).setRoot d (some ⟨true,z,[reCell (x.v st) cs]⟩)).put (some d) (.loc d 0 0)
      else none
    | none => none)
 | .sto n a x =>
   if (x.v st).cells.length = n then
    match a.v st with
    | .loc q i c =>
      (st.r q).bind fun R =>
        match R.b,R.xs,i with
        | true,[e],0 =>
          if q < 1000 ∧ c + n ≤ e.cells.length ∧ c + n ≤ 1000 ∧ (x.v st).cells.all (solid st.r) = true then
           (((st.put' gs (x.v st)).setRoot q (some ⟨true,R.z,[blank e c n]⟩)).absorbs q c 0 n).map fun (vs,st1) =>
             ((st1.put' gs .any).setRoot q (some ⟨true,R.z,[reCell e (e.cells.take c ++ vs ++ e.cells.drop (c + n))]⟩)).put d .any
          else none
        | false,_,_ =>
          (st.pin (x.v st)).bind fun (v,st1) =>
            if v.cells.length = n then (st1.r q).bind fun R => (R.xs[i]?).bind fun e =>
             (setCells e.cells c v.cells).map fun cs => (st1.setRoot q (some ⟨false,R.z,R.xs.set i (reCell e cs)⟩)).put d .any
            else none
        | _,_,_ => none
    | _ => none
   else none
 | .app z bytes s x =>
   (match d with
    | none => none
    | some d =>
      (elems st.r (x.v st)).bind fun (z2,ys) =>
        match s.v st with
        | .tok k z1 xs => if z1 = z ∧ z2 = z ∧ xs.length + ys.length < lim ∧ bytes ≤ 128 ∧ ys.all flatC = true then some ((st.killTok k).put (some d) (.tok (8 * d) z (xs ++ ys))) else none
        | .nils z1 => if z1 = z ∧ z2 = z ∧ ys.length < lim ∧ bytes ≤ 128 ∧ ys.all flatC = true then some (st.put (some d) (.tok (8 * d) z ys)) else none
        | .view q off n =>
          (st.r q).bind fun R =>
            if R.z = z ∧ z2 = z ∧ n + ys.length < lim ∧ bytes ≤ 128 ∧ ys.all flatC = true then
             some (((st.kill q).setRoot q none).put (some d) (.tok (8 * d) z ((R.xs.drop off).take n ++ ys)))
            else none
        | _ => none)
 | .call f args =>
   (match f.v st with
    | .fn g caps =>
      ((st.lay (args.map (Opd.v st) ++ caps)).pinAll (io g) 0 (args.length + caps.length)).bind fun st1 =>
        let vs := (List.range (args.length + caps.length)).map fun j => st1.t (gs + j)
        (loans st1 (io g) vs).bind fun (ls,qs,ns) =>
          if decide ns.Nodup then
           (args1 { st1 with r := less st1.r ns } ls vs).bind fun as => (cf g as).bind fun (res,outs) =>
             (giveBack (st1.lay []) qs outs).bind fun st2 => landR st2 d res
          else none
    | _ => none)
 | .ia z x i =>
   (match i.v st,x.v st with
    | .int _ n,.tok k z' xs =>
      (st.pin (x.v st)).bind fun (v0,st1) =>
        (match v0 with
         | .sl z0 xs0 => if 0 ≤ n ∧ z0 = z then (xs0[n.toNat]?).map fun y => st1.put d (.ptr y.cells 0) else none
         | _ => none)
    | _,_ => none)
 | .bsl z zero n parts =>
   (match d with
    | some d =>
      if n * z ≤ 16777216 ∧ zero.cells.length = z then (fillQ st z (List.replicate n zero) parts).map fun (xs,st1) => st1.put (some d) (.tok (8 * d) z xs) else none
    | none => none)
 | _ => none
where
 fillQ (st : St) (z : Nat) : List A → List (Nat × Opd) → Option (List A × St)
  | xs,[] => some (xs,st)
  | xs,(i,x) :: l =>
    (st.pin (x.v st)).bind fun (v,st1) => if v.cells.length = z ∧ i < xs.length then fillQ st1 z (xs.set i v) l else none
def guardOf (ops : List Op) (st : St) : Option (Nat × Bool) → Option Bool
 | none => some true
 | some (j,want) =>
   match (ops[j]?).bind (·.d) with
   | some d => (match st.t d with | .bool b => some (b == want) | .undef => some false | _ => none)
   | none => none
def touch (st : St) : O → List Nat
 | .call f args => (args.map (Opd.v st)).flatMap (names st.r) ++ (match f.v st with | .fn _ caps => caps.flatMap (names st.r) | _ => [])
 | .sto _ a _ => (match a.v st with | .loc q _ _ => [q] | _ => [])
 | _ => []
def staysA (d : Option Nat) : A → Bool
 | .loc p _ _ => d != some p
 | .view p _ _ => d != some p
 | a => pure a
def noView (a : A) : Bool := a.cells.all fun c => match c with | .view .. => false | _ => true
def callN (st : St) : O → Bool
 | .call f args => (args.map (Opd.v st)).all noView && (match f.v st with | .fn _ caps => caps.all noView | _ => false)
 | _ => false
def freeAt (st : St) (o : O) (d : Option Nat) (p : Nat) : Bool :=
 decide (p < 1002000) && (!(touch st o).contains p && ((touch st o).all (fun i => i + 1 != p / 1000) && (match d with | some i => i != p && i + 1 != p / 1000 | none => true)))
def staysW (st : St) (o : O) (d : Option Nat) : A → Bool
 | .loc p _ _ => (decide (p < 1000) && (d != some p && (!(touch st o).contains p && (match st.r p with | some R => R.b | none => false)))) || (callN st o && freeAt st o d p)
 | .view p _ _ => callN st o && freeAt st o d p
 | .any => true
 | a => pure a
def stays (st : St) (o : O) (d : Option Nat) (k : Nat) : Bool :=
 match o with
 | .alloc _ _ => staysA d (st.t k)
 | .bsl _ _ _ ps => staysA d (st.t k) && ps.all fun p => noView (p.2.v st)
 | o => staysW st o d (st.t k)
def opdU : Opd → List Nat
 | .t i => [i]
 | .c _ => []
def optU : Option Opd → List Nat
 | some x => opdU x
 | none => []
def uses : O → List Nat
 | .mv x | .asg x | .box _ x | .nilck x | .un _ x | .conv _ x | .fa _ x | .fld _ _ x | .len x | .lens x | .ext x _ | .ld _ x => opdU x
 | .pick c a b => opdU c ++ opdU a ++ opdU b
 | .alloc .. => []
 | .build _ ps => ps.flatMap fun p => opdU p.2.2
 | .bsl _ _ _ ps => ps.flatMap fun p => opdU p.2
 | .sto _ a v => opdU a ++ opdU v
 | .bin _ x y | .eqs _ _ x y | .eqb _ x y | .ia _ x y | .iaa _ _ x y | .ix x y | .ixa _ _ _ x y | .app _ _ x y | .mks _ _ _ x y => opdU x ++ opdU y
 | .slc _ x lo hi | .slcs x lo hi => opdU x ++ optU lo ++ optU hi
 | .max xs | .min xs | .mkf _ xs => xs.flatMap opdU
 | .call f args => opdU f ++ args.flatMap opdU
def isAny : A → Bool
 | .any => true
 | _ => false
def staysC (d : Option Nat) : A → Bool
 | .loc p _ _ => d != some p
 | .view p _ _ => d != some p
 | a => pureC a
def staysV (d : Option Nat) : A → Bool
 | .agg cs => cs.all (staysC d)
 | a => staysA d a
def okV (st : St) (o : O) (v : A) : Bool :=
 pure v || (match v with
  | .loc .. | .view .. => (match o with | .ld _ (.t k) => (match st.t k with | .loc q _ _ => (match st.r q with | some R => R.b | none => false) | _ => false) | .mv (.t _) | .nilck (.t _) | .fa _ (.t _) | .iaa _ _ (.t _) _ | .ia _ (.t _) _ => true | _ => false)
  | _ => false)
def thereV (st : St) : A → Bool
 | .loc p _ _ | .view p _ _ => (st.r p).isSome
 | _ => true
def readOk (st : St) (o : Op) (v : A) : Bool := (!o.pq || pure v) && o.av.all fun d => if d = gs then (match o.d with | some s => isAny (st.t s) | none => false) else if d = gs + 1 then okV st o.o v else if d = gs + 2 then thereV st v else staysV (some d) v && (uses o.o).all fun k => staysA (some d) (st.t k)
def stoP (st : St) : O → Bool
 | .sto _ a x => pure (x.v st) && (match a.v st with | .loc q _ _ => (match st.r q with | some R => !R.b | none => false) | _ => false)
 | .asg x => (match x.v st with | .tok .. => false | .nils _ => false | _ => true)
 | _ => false
def cellRoots (r : Nat → Option Root) (p : Nat) : List Nat :=
 match r p with
 | some R => if R.b then R.xs.flatMap fun x => x.cells.flatMap rootOf1 else []
 | none => []
def rootOk (st : St) (o : O) (d : Option Nat) (p : Nat) : Bool := freeAt st o d p && (cellRoots st.r p).all fun p' => freeAt st o d p' && (cellRoots st.r p').isEmpty
def staysL (st : St) (o : O) (d : Option Nat) : A → Bool
 | .loc p _ _ | .view p _ _ => rootOk st o d p
 | .any => true
 | a => pure a
def staysM (st : St) : A → Bool
 | .loc p _ _ => decide (p < 1000) && (match st.r p with | some R => R.b | none => false)
 | .any => true
 | a => pure a
def staysP (d : Option Nat) : A → Bool
 | .loc p _ _ => decide (p < 1000) && (d != some p)
 | .any => true
 | a => pure a
def cp : Nat := 2000000
def staysN (st : St) (x : Opd) : A → Bool
 | .loc p _ _ | .view p _ _ => (match x.v st with | .view q _ _ => p != q | _ => true)
 | .any => true
 | a => pure a
def stoM (st : St) (av : List Nat) (d : Option Nat) : O → Bool
 | .sto n a x => stoP st (.sto n a x) || ((match a.v st with | .loc q _ _ => (st.r q).isSome | _ => false) && av.all fun k => decide (gs ≤ k) || staysM st (st.t k))
 | .call f args => callN st (.call f args) && (av.all (fun k => decide (gs ≤ k) || staysL st (.call f args) d (st.t k)) && av.all fun k => decide (k < cp) || staysP d (st.t (k - cp)))
 | .app _ _ x _ => av.all fun k => decide (gs ≤ k) || staysN st x (st.t k)
 | _ => false
def chkW (st : St) (o : Op) : Bool := if o.pq && !o.av.isEmpty then stoM st o.av o.d o.o else (!o.pq || stoP st o.o) && o.av.all (stays st o.o o.d)
def step (cf : CF) (io : Nat → List Bool) (st : St) (o : Op) : Option St :=
 if o.w then (if chkW st o then stepW cf io o.d st o.o else none) else (evalV cf io o.d st o.o).bind fun v => if readOk st o v then some (st.put o.d v) else none
def runOps (cf : CF) (io : Nat → List Bool) (all : List Op) : List Op → St → Option St
 | [],st => some st
 | o :: l,st =>
   match guardOf all st o.g with
   | some true => (step cf io st o).bind (runOps cf io all l)
   | some false => runOps cf io all l (st.put o.d .undef)
   | none => none
def fz1 : A → A
 | .tok _ z xs => .sl z xs
 | a => a
def fz : A → A := comps fz1
def St.restrict (st : St) (keep keepR : List Nat) : St :=
 { t := tab (keep.map fun i => (i,fz (st.t i))),r := rtab (keepR.filterMap fun i => (st.r i).map fun R => (i,R)) }
def St.open1 (st : St) (n : Nat) : St :=
 match st.r (n / 1000 - 1) with
 | some ⟨true,z,[.agg cs]⟩ =>
   (match cs[n % 1000]? with
    | some (.nils z1) => if 1000 ≤ n ∧ (st.r n).isNone = true then ((st.kill n).setRoot n (some ⟨false,z1,[]⟩)).setRoot (n / 1000 - 1) (some ⟨true,z,[.agg (cs.set (n % 1000) (.view n 0 0))]⟩) else st
    | _ => st)
 | _ => st
inductive Ex where
 | normal
 | exit (id : Nat)
 | ret
def isFn : A → Bool
 | .fn .. => true
 | _ => false
def enterArgs (i : Nat) : List A → St → Option St
 | [],st => some st
 | .iob z [x] :: l,st => (takeVar st i z x).bind fun st1 => enterArgs (i + 1) l (st1.put (some i) (.loc i 0 0))
 | .ios z xs :: l,st => if i < 1000 then enterArgs (i + 1) l (((st.kill i).setRoot i (some ⟨false,z,xs⟩)).put (some i) (.view i 0 xs.length)) else none
 | a :: l,st => if pure a || isFn a then enterArgs (i + 1) l (st.put (some i) a) else none
def isLent : A → Bool
 | .iob .. | .ios .. => true
 | _ => false
def lentOk : List Bool → List A → Bool
 | _,[] => true
 | b :: bs,a :: l => (!isLent a || b) && lentOk bs l
 | [],a :: l => !isLent a && lentOk [] l
def Fn.enter (fn : Fn) (args : List A) : Option St :=
 if args.length = fn.np ∧ lentOk fn.io args = true then enterArgs 0 args ⟨tab [],rtab []⟩ else none
def Rs.v (st : St) : Rs → Option A
 | .t i => some (st.t i)
 | .cell i n =>
   match st.t i with
   | .loc q j c => (st.r q).bind fun R => (R.xs[j]?).bind fun x => getCells x.cells c n
   | _ => none
def dropTok1 (ks : List Nat) : A → A
 | .tok k z xs => if ks.contains k then .any else .tok k z xs
 | a => a
def tokOf1 : A → List Nat
 | .tok k _ _ => [k]
 | _ => []
def toksOf : A → List Nat
 | .agg cs | .tup cs => cs.flatMap tokOf1
 | a => tokOf1 a
def St.leave1 (st : St) (j : Nat) (own : Bool) : Option (A × St) :=
 if own then
  match st.t (gs + j) with
  | .tok k z xs => if xs.all A.plain then some (.tok j z xs,st.killTok k) else none
  | .nils z => some (.tok j z [],st)
  | .view q off n =>
    (st.r q).bind fun R => if ((R.xs.drop off).take n).all A.plain then some (.tok j R.z ((R.xs.drop off).take n),{ st with r := less st.r [q] }) else none
  | .loc q 0 0 => (st.r q).bind fun R =>
    (match R.b,R.xs with
     | true,[x] => (lends st.r x.cells).map fun cs => (.iob R.z [reCell x cs],{ st with r := less st.r (q :: x.cells.flatMap rootOf1) })
     | _,_ => none)
  | _ => none
 else
  (toData (only st.r (names st.r (st.t (gs + j)))) (st.t (gs + j))).map fun x =>
    (x,{ t := fun i => comps (dropTok1 (toksOf (st.t (gs + j)))) (st.t i),r := less st.r (names st.r (st.t (gs + j))) })
def St.leaves (st : St) : (j : Nat) → List Bool → Option (List A × St)
 | j,b :: bs => (st.leave1 j b).bind fun (x,st1) => (st1.leaves (j + 1) bs).map fun (xs,st2) => (x :: xs,st2)
 | _,[] => some ([],st)
def rsAll (st : St) : List Rs → Option (List A)
 | [] => some []
 | r :: l => (r.v st).bind fun a => (rsAll st l).map fun xs => a :: xs
def outs (st : St) (i : Nat) : List A → Option (List A)
 | [] => some []
 | .iob z _ :: l => (st.r i).bind fun R =>
   (match R.b,R.xs with
    | true,[x] => if R.z = z ∧ i < 1000 then (lends st.r x.cells).bind fun cs => (outs st (i + 1) l).map fun r => .iob z [reCell x cs] :: r else none
    | _,_ => none)
 | .ios z xs :: l =>
   (match st.r i with
    | none => (outs st (i + 1) l).map fun r => .any :: r
    | some R => if R.z = z ∧ R.xs.length = xs.length ∧ R.b = false ∧ i < 1000 then (outs st (i + 1) l).map fun r => .ios z R.xs :: r else none)
 | _ :: l => outs st (i + 1) l
def Fn.leave (fn : Fn) (args : List A) (st : St) : Option (List A × List A) :=
 if fn.own.length = fn.res.length then (rsAll st fn.res).bind fun as => ((st.lay as).leaves 0 fn.own).bind fun (rs,st1) => (outs { st1 with r := less st1.r fn.gone } 0 args).map fun os => (rs,os) else none
inductive Def where
 | ir (f : Fn)
 | prim (io : List Bool) (g : CF)
def iosOf (M : Nat → Option Def) (f : Nat) : List Bool :=
 match M f with
 | some (.ir fn) => fn.io
 | some (.prim io _) => io
 | none => []
def callF (M : Nat → Option Def) (ex : C → St → Option (Ex × St)) : CF := fun f args =>
 match M f with
 | some (.ir fn) =>
   (fn.enter args).bind fun st0 =>
     match ex fn.body st0 with
     | some (.ret,st) | some (.normal,st) => fn.leave args st
     | _ => none
 | some (.prim _ g) => g f args
 | none => none
def exec (M : Nat → Option Def) : Nat → C → St → Option (Ex × St)
 | 0,_,_ => none
 | n + 1,c,st =>
   match c with
   | .skip => some (.normal,st)
   | .reg _ ops keep keepR => (runOps (callF M (exec M n)) (iosOf M) ops ops st).map fun st' => (.normal,st'.restrict keep keepR)
   | .seq a b => (match exec M n a st with | some (.normal,st') => exec M n b st' | r => r)
   | .cond c a b => (match c.v st with | .bool t => exec M n (if t then a else b) st | _ => none)
   | .block id b => (match exec M n b st with | some (.exit j,st') => if j = id then some (.normal,st') else some (.exit j,st') | r => r)
   | .loop b => (match exec M n b st with | some (.normal,st') => exec M n (.loop b) st' | r => r)
   | .exit id => some (.exit id,st)
   | .ret => some (.ret,st)
   | .norm keep keepR b => exec M n b (st.restrict keep keepR)
   | .opn i b => exec M n b (st.open1 i)
   | .stop => none
end Go.Ab
namespace Go.Ab
def Cells (w : World) (b o : Nat) (vs : List Value) : Prop := ∀ j v,vs[j]? = some v → w.cell? ⟨b,o + j,none⟩ = some v
mutual
inductive Rep (φ : Nat → Nat) (w : World) (ok : Nat → Prop) : Value → A → Prop
 | bool (b : Bool) : Rep φ w ok (.bool b) (.bool b)
 | int (k : IntKind) (n : Int) : Rep φ w ok (.int k n) (.int k n)
 | str (s : List UInt8) : Rep φ w ok (.string ⟨s.toArray⟩) (.str s)
 | agg (vs : List Value) (cs : List A) (h : Reps φ w ok vs cs) : Rep φ w ok (.agg vs.toArray) (.agg cs)
 | nils (z : Nat) : Rep φ w ok (.slice none 0 0) (.nils z)
 | cst (v : Value) (h : oneV v = true) : Rep φ w ok v (.cst v)
 | slE (ad : Option Addr) (cap z : Nat) : Rep φ w ok (.slice ad 0 cap) (.sl z [])
 | sl (b o cap z : Nat) (xs : List A) (vs : List Value) (hb : ok b) (hz : ∀ x ∈ xs,x.cells.length = z) (hc : xs.length ≤ cap)
    (h : Reps φ w ok vs (xs.flatMap A.cells)) (hv : Cells w b o vs) : Rep φ w ok (.slice (some ⟨b,o,none⟩) xs.length cap) (.sl z xs)
 | ptr (b o c : Nat) (cs : List A) (vs : List Value) (hb : ok b) (h : Reps φ w ok vs cs) (hv : Cells w b o vs) :
    Rep φ w ok (.pointer (some ⟨b,o + c,none⟩)) (.ptr cs c)
 | fn (f : Nat) (caps : List A) (vs : List Value) (h : Reps φ w ok vs caps) : Rep φ w ok (.func (.func (φ f)) #[] vs.toArray) (.fn f caps)
inductive Reps (φ : Nat → Nat) (w : World) (ok : Nat → Prop) : List Value → List A → Prop
 | nil : Reps φ w ok [] []
 | cons (v : Value) (a : A) (vs : List Value) (as : List A) (h : Rep φ w ok v a) (t : Reps φ w ok vs as) : Reps φ w ok (v :: vs) (a :: as)
end
structure Ext (w w' : World) : Prop where
 size : w.heap.size ≤ w'.heap.size
 same : ∀ b,b < w.heap.size → w'.heap[b]? = w.heap[b]?
 env : w'.os = w.os ∧ w'.output = w.output
theorem frozen?_block {w w' : World} {b : Nat} (h : w'.heap[b]? = w.heap[b]?) (off : Nat) : w'.frozen? ⟨b,off,none⟩ = w.frozen? ⟨b,off,none⟩ := by
 simp only [World.frozen?,h]
theorem Ext.refl (w : World) : Ext w w := ⟨Nat.le_refl _,fun _ _ => rfl,⟨rfl,rfl⟩⟩
theorem Ext.trans {w w1 w2 : World} (h : Ext w w1) (h' : Ext w1 w2) : Ext w w2 :=
 ⟨Nat.le_trans h.size h'.size,fun b hb => (h'.same b (Nat.lt_of_lt_of_le hb h.size)).trans (h.same b hb),⟨h'.env.1.trans h.env.1,h'.env.2.trans h.env.2⟩⟩
theorem cell?_of_block {w w' : World} {b : Nat} (h : w'.heap[b]? = w.heap[b]?) (off : Nat) : w'.cell? ⟨b,off,none⟩ = w.cell? ⟨b,off,none⟩ := by
 simp only [World.cell?,h]
theorem frozen?_of_block {w w' : World} {b : Nat} (h : w'.heap[b]? = w.heap[b]?) (off : Nat) : w'.frozen? ⟨b,off,none⟩ = w.frozen? ⟨b,off,none⟩ := by
 simp only [World.frozen?,h]
theorem Cells.of_block {w w' : World} {b o : Nat} {vs : List Value} (h : w'.heap[b]? = w.heap[b]?) (hc : Cells w b o vs) : Cells w' b o vs :=
 fun j v hj => (cell?_of_block h _).trans (hc j v hj)
mutual
theorem Rep.mono {φ : Nat → Nat} {w w' : World} {ok ok' : Nat → Prop} (hs : ∀ b,ok b → w'.heap[b]? = w.heap[b]?) (hk : ∀ b,ok b → ok' b) :
 ∀ {v : Value} {a : A},Rep φ w ok v a → Rep φ w' ok' v a
 | _,_,.bool b => .bool b
 | _,_,.int k n => .int k n
 | _,_,.str s => .str s
 | _,_,.agg vs cs h => .agg vs cs (Reps.mono hs hk h)
 | _,_,.nils z => .nils z
 | _,_,.cst v h => .cst v h
 | _,_,.slE ad cap z => .slE ad cap z
 | _,_,.sl b o cap z xs vs hb hz hc h hv => .sl b o cap z xs vs (hk b hb) hz hc (Reps.mono hs hk h) (hv.of_block (hs b hb))
 | _,_,.ptr b o c cs vs hb h hv => .ptr b o c cs vs (hk b hb) (Reps.mono hs hk h) (hv.of_block (hs b hb))
 | _,_,.fn f caps vs h => .fn f caps vs (Reps.mono hs hk h)
theorem Reps.mono {φ : Nat → Nat} {w w' : World} {ok ok' : Nat → Prop} (hs : ∀ b,ok b → w'.heap[b]? = w.heap[b]?) (hk : ∀ b,ok b → ok' b) :
 ∀ {vs : List Value} {as : List A},Reps φ w ok vs as → Reps φ w' ok' vs as
 | _,_,.nil => .nil
 | _,_,.cons v a vs as h t => .cons v a vs as (Rep.mono hs hk h) (Reps.mono hs hk t)
end
section
variable {φ : Nat → Nat} {w : World} {ok : Nat → Prop}
theorem Reps.length : ∀ {vs : List Value} {as : List A},Reps φ w ok vs as → vs.length = as.length
 | _,_,.nil => rfl
 | _,_,.cons _ _ _ _ _ t => congrArg (· + 1) t.length
theorem Reps.append : ∀ {vs us : List Value} {as bs : List A},Reps φ w ok vs as → Reps φ w ok us bs → Reps φ w ok (vs ++ us) (as ++ bs)
 | _,_,_,_,.nil,h => h
 | _,_,_,_,.cons v a vs as hv t,h => .cons v a _ _ hv (t.append h)
theorem Reps.get : ∀ {vs : List Value} {as : List A},Reps φ w ok vs as → ∀ {j : Nat} {a : A},as[j]? = some a → ∃ v,vs[j]? = some v ∧ Rep φ w ok v a
 | _,_,.nil,j,a,h => by simp at h
 | _,_,.cons v a vs as hv t,0,b,h => by simp at h; subst h; exact ⟨v,rfl,hv⟩
 | _,_,.cons v a vs as hv t,j + 1,b,h => by simpa using t.get (by simpa using h)
theorem Reps.getV : ∀ {vs : List Value} {as : List A},Reps φ w ok vs as → ∀ {j : Nat} {v : Value},vs[j]? = some v → ∃ a,as[j]? = some a ∧ Rep φ w ok v a
 | _,_,.nil,j,a,h => by simp at h
 | _,_,.cons v a vs as hv t,0,b,h => by simp at h; subst h; exact ⟨a,rfl,hv⟩
 | _,_,.cons v a vs as hv t,j + 1,b,h => by simpa using t.getV (by simpa using h)
theorem Reps.drop : ∀ {vs : List Value} {as : List A},Reps φ w ok vs as → ∀ n,Reps φ w ok (vs.drop n) (as.drop n)
 | _,_,h,0 => by simpa using h
 | _,_,.nil,n + 1 => by simpa using .nil
 | _,_,.cons v a vs as hv t,n + 1 => by simpa using t.drop n
theorem Reps.take : ∀ {vs : List Value} {as : List A},Reps φ w ok vs as → ∀ n,Reps φ w ok (vs.take n) (as.take n)
 | _,_,h,0 => by simpa using .nil
 | _,_,.nil,n + 1 => by simpa using .nil
 | _,_,.cons v a vs as hv t,n + 1 => by simpa using .cons v a _ _ hv (t.take n)
theorem Reps.set : ∀ {vs : List Value} {as : List A},Reps φ w ok vs as → ∀ (n : Nat) {v : Value} {a : A},Rep φ w ok v a → Reps φ w ok (vs.set n v) (as.set n a)
 | _,_,.nil,n,_,_,_ => by simpa using .nil
 | _,_,.cons v a vs as hv t,0,_,_,h => by simpa using .cons _ _ _ _ h t
 | _,_,.cons v a vs as hv t,n + 1,_,_,h => by simpa using .cons _ _ _ _ hv (t.set n h)
theorem Reps.split : ∀ {as bs : List A} {vs : List Value},Reps φ w ok vs (as ++ bs) → ∃ us ts,vs = us ++ ts ∧ Reps φ w ok us as ∧ Reps φ w ok ts bs
 | [],bs,vs,h => ⟨[],vs,rfl,.nil,h⟩
 | a :: as,bs,_,.cons v _ vs _ hv t => by
   obtain ⟨us,ts,rfl,h1,h2⟩ := Reps.split (as := as) (bs := bs) t
   exact ⟨v :: us,ts,rfl,.cons _ _ _ _ hv h1,h2⟩
theorem Cells.nil {b o : Nat} : Cells w b o [] := fun j v h => by simp at h
theorem Cells.left {b o : Nat} {us ts : List Value} (h : Cells w b o (us ++ ts)) : Cells w b o us := fun j v hj => h j v (by
 have : j < us.length := by
  rcases Nat.lt_or_ge j us.length with h' | h'
  ·exact h'
  ·simp [List.getElem?_eq_none h'] at hj
 rw [List.getElem?_append_left this]; exact hj)
theorem Cells.right {b o : Nat} {us ts : List Value} (h : Cells w b o (us ++ ts)) : Cells w b (o + us.length) ts := fun j v hj => by
 have := h (us.length + j) v (by rw [List.getElem?_append_right (by omega)]; simpa using hj)
 rwa [← Nat.add_assoc] at this
theorem Cells.append {b o : Nat} {us ts : List Value} (h : Cells w b o us) (h' : Cells w b (o + us.length) ts) : Cells w b o (us ++ ts) := fun j v hj => by
 rcases Nat.lt_or_ge j us.length with hl | hl
 ·rw [List.getElem?_append_left hl] at hj; exact h j v hj
 ·rw [List.getElem?_append_right hl] at hj
  have := h' (j - us.length) v hj
  rwa [show o + us.length + (j - us.length) = o + j from by omega] at this
theorem Cells.drop {b o : Nat} {vs : List Value} (h : Cells w b o vs) (n : Nat) : Cells w b (o + n) (vs.drop n) := fun j v hj => by
 have := h (n + j) v (by simpa using hj)
 rwa [← Nat.add_assoc] at this
theorem Cells.take {b o : Nat} {vs : List Value} (h : Cells w b o vs) (n : Nat) : Cells w b o (vs.take n) := fun j v hj => h j v (by
 rw [List.getElem?_take] at hj
 split at hj
 ·exact hj
 ·cases hj)
theorem Rep.cells {v : Value} {a : A} (h : Rep φ w ok v a) : Reps φ w ok v.cells.toList a.cells := by
 cases h with
 | agg vs cs h => simpa [Value.cells,A.cells] using h
 | cst v hv =>
   have : v.cells = #[v] := by cases v <;> first | rfl | simp [oneV] at hv
   rw [this]
   exact .cons _ _ _ _ (.cst _ hv) .nil
 | _ => exact .cons _ _ _ _ (by constructor <;> assumption) .nil
theorem Rep.oneCell {v : Value} {a : A} (h : Rep φ w ok v a) (ha : ∀ cs,a ≠ .agg cs) : (∀ cs,v ≠ .agg cs) ∧ (∀ vs,v ≠ .tuple vs) := by
 cases h with
 | agg vs cs h => exact absurd rfl (ha _)
 | cst v hv => constructor <;> (intro cs h; subst h; simp [oneV] at hv)
 | _ => exact ⟨fun _ h => by simp at h,fun _ h => by simp at h⟩
end
theorem flat_length {xs : List A} {z : Nat} (hz : ∀ x ∈ xs,x.cells.length = z) : (xs.flatMap A.cells).length = xs.length * z := by
 induction xs with
 | nil => simp
 | cons x xs ih =>
   rw [List.flatMap_cons,List.length_append,ih (fun y hy => hz y (List.mem_cons_of_mem _ hy)),hz x (List.mem_cons_self ..),List.length_cons,Nat.succ_mul]
   omega
theorem flat_drop {xs : List A} {z : Nat} (hz : ∀ x ∈ xs,x.cells.length = z) : ∀ n,(xs.drop n).flatMap A.cells = (xs.flatMap A.cells).drop (n * z) := by
 induction xs with
 | nil => simp
 | cons x xs ih =>
   intro n
   cases n with
   | zero => simp
   | succ n =>
     have hx := hz x (List.mem_cons_self ..)
     have h1 : (n + 1) * z - x.cells.length = n * z := by rw [hx,Nat.succ_mul]; omega
     have h2 : x.cells.drop ((n + 1) * z) = [] := List.drop_eq_nil_of_le (by rw [hx,Nat.succ_mul]; omega)
     rw [List.drop_succ_cons,ih (fun y hy => hz y (List.mem_cons_of_mem _ hy)),List.flatMap_cons,List.drop_append,h1,h2,List.nil_append]
theorem flat_take {xs : List A} {z : Nat} (hz : ∀ x ∈ xs,x.cells.length = z) : ∀ n,(xs.take n).flatMap A.cells = (xs.flatMap A.cells).take (n * z) := by
 induction xs with
 | nil => simp
 | cons x xs ih =>
   intro n
   cases n with
   | zero => simp
   | succ n =>
     have hx := hz x (List.mem_cons_self ..)
     have h1 : (n + 1) * z - x.cells.length = n * z := by rw [hx,Nat.succ_mul]; omega
     have h2 : x.cells.take ((n + 1) * z) = x.cells := List.take_of_length_le (by rw [hx,Nat.succ_mul]; omega)
     rw [List.take_succ_cons,List.flatMap_cons,List.flatMap_cons,ih (fun y hy => hz y (List.mem_cons_of_mem _ hy)),List.take_append,h1,h2]
end Go.Ab
namespace Go.Ab
def All2 (p : Value → A → Prop) (vs : List Value) (as : List A) : Prop :=
 vs.length = as.length ∧ ∀ (j : Nat) (v : Value) (a : A),vs[j]? = some v → as[j]? = some a → p v a
theorem All2.imp {p q : Value → A → Prop} {vs : List Value} {as : List A} (h : All2 p vs as) (hi : ∀ v a,p v a → q v a) : All2 q vs as :=
 ⟨h.1,fun j v a hv ha => hi v a (h.2 j v a hv ha)⟩
theorem All2.nil {p : Value → A → Prop} : All2 p [] [] := ⟨rfl,fun j v a h => by simp at h⟩
theorem All2.cons {p : Value → A → Prop} {v : Value} {a : A} {vs : List Value} {as : List A} (h : p v a) (t : All2 p vs as) : All2 p (v :: vs) (a :: as) :=
 ⟨by simp [t.1],fun j u b hu hb => by
   cases j with
   | zero => simp at hu hb; subst hu; subst hb; exact h
   | succ j => exact t.2 j u b (by simpa using hu) (by simpa using hb)⟩
theorem All2.uncons {p : Value → A → Prop} {vs : List Value} {a : A} {as : List A} (h : All2 p vs (a :: as)) : ∃ v us,vs = v :: us ∧ p v a ∧ All2 p us as := by
 cases vs with
 | nil => have := h.1; simp at this
 | cons v us =>
   exact ⟨v,us,rfl,h.2 0 v a rfl rfl,by have := h.1; simpa using this,fun j u b hu hb => h.2 (j + 1) u b (by simpa using hu) (by simpa using hb)⟩
theorem All2.of_reps {φ : Nat → Nat} {w : World} {ok : Nat → Prop} {vs : List Value} {as : List A} (h : Reps φ w ok vs as) : All2 (Rep φ w ok) vs as :=
 ⟨h.length,fun j v a hv ha => by obtain ⟨u,hu,hr⟩ := h.get ha; rw [hv] at hu; cases hu; exact hr⟩
theorem All2.reps {φ : Nat → Nat} {w : World} {ok : Nat → Prop} : ∀ {vs : List Value} {as : List A},All2 (Rep φ w ok) vs as → Reps φ w ok vs as
 | [],[],_ => .nil
 | [],a :: as,h => by have := h.1; simp at this
 | v :: vs,[],h => by have := h.1; simp at this
 | v :: vs,a :: as,h => by
   obtain ⟨u,us,he,h1,h2⟩ := h.uncons
   cases he
   exact .cons _ _ _ _ h1 h2.reps
theorem All2.get {p : Value → A → Prop} {vs : List Value} {as : List A} (h : All2 p vs as) {j : Nat} {a : A} (ha : as[j]? = some a) : ∃ v,vs[j]? = some v ∧ p v a := by
 have hj : j < vs.length := by
  rw [h.1]
  rcases Nat.lt_or_ge j as.length with h' | h'
  ·exact h'
  ·simp [List.getElem?_eq_none h'] at ha
 exact ⟨vs[j],by simp,h.2 j _ _ (by simp) ha⟩
theorem All2.append {p : Value → A → Prop} : ∀ {vs us : List Value} {as bs : List A},All2 p vs as → All2 p us bs → All2 p (vs ++ us) (as ++ bs)
 | [],us,[],bs,_,h' => by simpa using h'
 | [],us,a :: as,bs,h,_ => by have := h.1; simp at this
 | v :: vs,us,[],bs,h,_ => by have := h.1; simp at this
 | v :: vs,us,a :: as,bs,h,h' => by
   obtain ⟨u,ws,he,h1,h2⟩ := h.uncons
   cases he
   exact .cons h1 (h2.append h')
def Room (w : World) (b n : Nat) : Prop := ∃ C e fr,w.heap[b]? = some (.cells C e fr) ∧ n ≤ C.size ∧ ∀ off,off < C.size → w.frozen? ⟨b,off,none⟩ = false
theorem Room.of_block {w w' : World} {b n : Nat} (h : w'.heap[b]? = w.heap[b]?) : Room w b n → Room w' b n
 | ⟨C,e,fr,h1,h2,h3⟩ => ⟨C,e,fr,h.trans h1,h2,fun off ho => (frozen?_of_block h off).trans (h3 off ho)⟩
theorem Room.le {w : World} {b n m : Nat} (h : m ≤ n) : Room w b n → Room w b m
 | ⟨C,e,fr,h1,h2,h3⟩ => ⟨C,e,fr,h1,Nat.le_trans h h2,h3⟩
theorem Room.lt {w : World} {b n : Nat} : Room w b n → b < w.heap.size
 | ⟨C,e,fr,h1,h2,h3⟩ => by
   rcases Nat.lt_or_ge b w.heap.size with h | h
   ·exact h
   ·simp [Array.getElem?_eq_none h] at h1
structure Env where
 ok : Nat → Prop
 ρ : Nat → Option (Nat × Nat)
inductive RV1 (φ : Nat → Nat) (E : Env) (r : Nat → Option Root) (w : World) : Value → A → Prop
 | any (v : Value) : RV1 φ E r w v .any
 | undef : RV1 φ E r w Go.undef .undef
 | data (v : Value) (a : A) (h : Rep φ w E.ok v a) : RV1 φ E r w v a
 | tokE (ad : Option Addr) (k z : Nat) : RV1 φ E r w (.slice ad 0 0) (.tok k z [])
 | tok (b o cap k z : Nat) (xs : List A) (vs : List Value) (hc : xs.length ≤ cap) (h0 : cap ≠ 0) (hz : ∀ x ∈ xs,x.cells.length = z)
    (h : Reps φ w E.ok vs (xs.flatMap A.cells)) (hv : Cells w b o vs) (hr : Room w b (o + cap * z)) :
    RV1 φ E r w (.slice (some ⟨b,o,none⟩) xs.length cap) (.tok k z xs)
 | viewN (v : Value) (q off n : Nat) (h : r q = none) : RV1 φ E r w v (.view q off n)
 | viewE (ad : Option Addr) (q off : Nat) (R : Root) (h : r q = some R) (hb : R.b = false) (hn : off ≤ R.xs.length) : RV1 φ E r w (.slice ad 0 0) (.view q off 0)
 | view (b o cap q off n : Nat) (R : Root) (h : r q = some R) (hb : R.b = false) (hn : off + n ≤ R.xs.length) (hc : n ≤ cap) (h0 : cap ≠ 0)
    (hρ : E.ρ q = some (b,o)) (hr : Room w b (o + (off + cap) * R.z)) : RV1 φ E r w (.slice (some ⟨b,o + off * R.z,none⟩) n cap) (.view q off n)
 | locN (v : Value) (q i c : Nat) (h : r q = none) : RV1 φ E r w v (.loc q i c)
 | loc (b o q i c : Nat) (R : Root) (h : r q = some R) (hρ : E.ρ q = some (b,o)) : RV1 φ E r w (.pointer (some ⟨b,o + i * R.z + c,none⟩)) (.loc q i c)
inductive RV (φ : Nat → Nat) (E : Env) (r : Nat → Option Root) (w : World) : Value → A → Prop
 | one (v : Value) (a : A) (h : RV1 φ E r w v a) : RV φ E r w v a
 | tup (vs : List Value) (xs : List A) (h : All2 (RV1 φ E r w) vs xs) : RV φ E r w (.tuple vs.toArray) (.tup xs)
 | agg (vs : List Value) (xs : List A) (h : All2 (RV1 φ E r w) vs xs) : RV φ E r w (.agg vs.toArray) (.agg xs)
 | fn (f : Nat) (vs : List Value) (xs : List A) (h : All2 (RV1 φ E r w) vs xs) (hn : ∀ x ∈ xs,anyTok x = false) : RV φ E r w (.func (.func (φ f)) #[] vs.toArray) (.fn f xs)
inductive Tk1 : Value → A → Nat → Nat → Prop
 | mk (ad : Addr) (n cap k z : Nat) (xs : List A) (h : cap ≠ 0) : Tk1 (.slice (some ad) n cap) (.tok k z xs) k ad.block
inductive Tk : Value → A → Nat → Nat → Prop
 | one (v : Value) (a : A) (k b : Nat) (h : Tk1 v a k b) : Tk v a k b
 | tup (vs : List Value) (xs : List A) (j k b : Nat) (v : Value) (a : A) (hv : vs[j]? = some v) (ha : xs[j]? = some a) (h : Tk1 v a k b) : Tk (.tuple vs.toArray) (.tup xs) k b
 | agg (vs : List Value) (xs : List A) (j k b : Nat) (v : Value) (a : A) (hv : vs[j]? = some v) (ha : xs[j]? = some a) (h : Tk1 v a k b) : Tk (.agg vs.toArray) (.agg xs) k b
inductive CellOk (φ : Nat → Nat) (E : Env) (r : Nat → Option Root) (w : World) (q c : Nat) : Value → A → Prop
 | data (v : Value) (a : A) (h : Rep φ w E.ok v a) (ha : ∀ cs,a ≠ .agg cs) : CellOk φ E r w q c v a
 | any (v : Value) (hv : (∀ cs,v ≠ .agg cs) ∧ (∀ vs,v ≠ .tuple vs)) : CellOk φ E r w q c v .any
 | view (v : Value) (off n : Nat) (hc : c < 1000) (h : RV1 φ E r w v (.view (sub q c) off n)) (hv : (∀ cs,v ≠ .agg cs) ∧ (∀ vs,v ≠ .tuple vs)) : CellOk φ E r w q c v (.view (sub q c) off n)
inductive RootOk (φ : Nat → Nat) (E : Env) (r : Nat → Option Root) (w : World) (q : Nat) : Root → Prop
 | empty (z : Nat) (h : E.ρ q = none) : RootOk φ E r w q ⟨false,z,[]⟩
 | sl (b o z : Nat) (xs : List A) (vs : List Value) (hρ : E.ρ q = some (b,o)) (hz : ∀ x ∈ xs,x.cells.length = z)
    (h : Reps φ w E.ok vs (xs.flatMap A.cells)) (hv : Cells w b o vs) (hr : Room w b (o + xs.length * z)) : RootOk φ E r w q ⟨false,z,xs⟩
 | box (b o z : Nat) (x : A) (vs : List Value) (hρ : E.ρ q = some (b,o)) (hz : x.cells.length = z) (hq : q < 1000)
    (hl : vs.length = x.cells.length) (h : ∀ (c : Nat) (v : Value) (a : A),vs[c]? = some v → x.cells[c]? = some a → CellOk φ E r w q c v a)
    (hv : Cells w b o vs) (hr : Room w b (o + z)) : RootOk φ E r w q ⟨true,z,[x]⟩
structure Lent where
 blk : Nat → Prop
 K0 : Nat → Prop
 pl : Nat → Option (Nat × Nat)
 lt : ∀ i p,pl i = some p → i < 1000
def Zone (w0 : World) (L : Lent) (b : Nat) : Prop := w0.heap.size ≤ b ∨ L.blk b
structure SimE (φ : Nat → Nat) (w0 : World) (L : Lent) (E : Env) (st : St) (ev : Nat → Value) (w : World) : Prop where
 slots : ∀ i,RV φ E st.r w (ev i) (st.t i)
 roots : ∀ q R,st.r q = some R → RootOk φ E st.r w q R
 inj : ∀ q q' b o b' o',(st.r q).isSome → (st.r q').isSome → E.ρ q = some (b,o) → E.ρ q' = some (b',o') → q ≠ q' → b ≠ b'
 rz : ∀ q b o,(st.r q).isSome → E.ρ q = some (b,o) → ¬ E.ok b ∧ Zone w0 L b ∧ b < w.heap.size
 tz : ∀ i k b,Tk (ev i) (st.t i) k b → (¬ E.ok b ∧ Zone w0 L b ∧ b < w.heap.size) ∧ ∀ q b' o,(st.r q).isSome → E.ρ q = some (b',o) → b' ≠ b
 td : ∀ i j k k' b b',Tk (ev i) (st.t i) k b → Tk (ev j) (st.t j) k' b' → k ≠ k' → b ≠ b'
 okz : ∀ b,E.ok b → b < w.heap.size
 grow : w0.heap.size ≤ w.heap.size
 frame : ∀ b,b < w0.heap.size → ¬ L.blk b → w.heap[b]? = w0.heap[b]?
 env : w.os = w0.os ∧ w.output = w0.output
 fr : ∀ b off,b < w0.heap.size → w.frozen? ⟨b,off,none⟩ = w0.frozen? ⟨b,off,none⟩
 room : ∀ b n,Room w0 b n → Room w b n
 lent : ∀ i p,L.pl i = some p → (st.r i).isSome → E.ρ i = some p
 okU : ∀ b,L.K0 b → E.ok b
 okL : ∀ b,E.ok b → L.K0 b ∨ Zone w0 L b
structure Sim (φ : Nat → Nat) (w0 : World) (L : Lent) (E : Env) (st : St) (a : Act) (w : World) : Prop extends SimE φ w0 L E st (fun i => a.eval (.tmp i)) w where
 nodef : a.defers = []
structure Env.Le (E E' : Env) (w w' : World) : Prop where
 ρ : E'.ρ = E.ρ
 ok : ∀ b,E.ok b → E'.ok b
 new : ∀ b,E'.ok b → E.ok b ∨ (w.heap.size ≤ b ∧ b < w'.heap.size)
theorem Env.Le.refl (E : Env) (w w' : World) : E.Le E w w' := ⟨rfl,fun _ h => h,fun _ h => .inl h⟩
section
variable {φ : Nat → Nat} {w0 : World} {L : Lent} {E E' : Env} {st : St} {a : Act} {w w' : World} {r : Nat → Option Root}
theorem RV1.ext (hs : ∀ b,b < w.heap.size → w'.heap[b]? = w.heap[b]?) (hE : ∀ b,E.ok b → E'.ok b) (hρ : E'.ρ = E.ρ) (hz : ∀ b,E.ok b → b < w.heap.size) {v : Value} {x : A}
 (h : RV1 φ E r w v x) : RV1 φ E' r w' v x := by
 have hm : ∀ {v : Value} {x : A},Rep φ w E.ok v x → Rep φ w' E'.ok v x := fun h => h.mono (fun b hb => hs b (hz b hb)) hE
 cases h with
 | any => exact .any _
 | undef => exact .undef
 | data _ _ h => exact .data _ _ (hm h)
 | tokE => exact .tokE _ _ _
 | tok b o cap k z xs vs hc h0 hzz h hv hr =>
   exact .tok b o cap k z xs vs hc h0 hzz (h.mono (fun b hb => hs b (hz b hb)) hE) (hv.of_block (hs _ hr.lt)) (hr.of_block (hs _ hr.lt))
 | viewN _ q off n h => exact .viewN _ _ _ _ h
 | viewE ad q off R h hb hn => exact .viewE _ _ _ R h hb hn
 | view b o cap q off n R h hb hn hc h0 hq hr => exact .view b o cap q off n R h hb hn hc h0 (hρ ▸ hq) (hr.of_block (hs _ hr.lt))
 | locN _ q i c h => exact .locN _ _ _ _ h
 | loc b o q i c R h hq => exact .loc b o q i c R h (hρ ▸ hq)
theorem RV.imp {E E' : Env} {r r' : Nat → Option Root} {v : Value} {x : A} (h : RV φ E r w v x) (hi : ∀ v x,RV1 φ E r w v x → RV1 φ E' r' w' v x) : RV φ E' r' w' v x := by
 cases h with
 | one _ _ h => exact .one _ _ (hi _ _ h)
 | tup vs xs h => exact .tup vs xs (h.imp hi)
 | agg vs xs h => exact .agg vs xs (h.imp hi)
 | fn f vs xs h hn => exact .fn f vs xs (h.imp hi) hn
theorem CellOk.ext (hs : ∀ b,b < w.heap.size → w'.heap[b]? = w.heap[b]?) (hE : ∀ b,E.ok b → E'.ok b) (hρ : E'.ρ = E.ρ) (hz : ∀ b,E.ok b → b < w.heap.size) {q c : Nat} {v : Value} {x : A}
 (h : CellOk φ E r w q c v x) : CellOk φ E' r w' q c v x := by
 cases h with
 | data _ h h' => exact .data _ _ (h.mono (fun b hb => hs b (hz b hb)) hE) h'
 | any h => exact .any _ h
 | view off n hc h h' => exact .view _ _ _ hc (h.ext hs hE hρ hz) h'
theorem RootOk.ext (hs : ∀ b,b < w.heap.size → w'.heap[b]? = w.heap[b]?) (hE : ∀ b,E.ok b → E'.ok b) (hρ : E'.ρ = E.ρ) (hz : ∀ b,E.ok b → b < w.heap.size) {q : Nat} {R : Root}
 (h : RootOk φ E r w q R) : RootOk φ E' r w' q R := by
 cases h with
 | empty z h => exact .empty z (hρ ▸ h)
 | sl b o z xs vs hq hzz h hv hr => exact .sl b o z xs vs (hρ ▸ hq) hzz (h.mono (fun b hb => hs b (hz b hb)) hE) (hv.of_block (hs _ hr.lt)) (hr.of_block (hs _ hr.lt))
 | box b o z x vs hq hzz hlt hl h hv hr =>
   exact .box b o z x vs (hρ ▸ hq) hzz hlt hl (fun c v a hv' ha => (h c v a hv' ha).ext hs hE hρ hz) (hv.of_block (hs _ hr.lt)) (hr.of_block (hs _ hr.lt))
theorem SimE.ext {ev : Nat → Value} (h : SimE φ w0 L E st ev w) (hw : Ext w w') (hE : E.Le E' w w') : SimE φ w0 L E' st ev w' := by
 have nok : ∀ b,¬ E.ok b → b < w.heap.size → ¬ E'.ok b := fun b h1 h2 h3 => (hE.new b h3).elim h1 (fun h4 => by omega)
 exact {
  slots := fun i => (h.slots i).imp fun v x hx => hx.ext hw.same hE.ok hE.ρ h.okz
  roots := fun q R hq => (h.roots q R hq).ext hw.same hE.ok hE.ρ h.okz
  inj := fun q q' b o b' o' h1 h2 h3 h4 => h.inj q q' b o b' o' h1 h2 (hE.ρ ▸ h3) (hE.ρ ▸ h4)
  rz := fun q b o h1 h2 => by
   have := h.rz q b o h1 (hE.ρ ▸ h2)
   exact ⟨nok b this.1 this.2.2,this.2.1,Nat.lt_of_lt_of_le this.2.2 hw.size⟩
  tz := fun i k b h1 => by
   have := h.tz i k b h1
   exact ⟨⟨nok b this.1.1 this.1.2.2,this.1.2.1,Nat.lt_of_lt_of_le this.1.2.2 hw.size⟩,fun q b' o h2 h3 => this.2 q b' o h2 (hE.ρ ▸ h3)⟩
  td := h.td
  okz := fun b hb => (hE.new b hb).elim (fun h1 => Nat.lt_of_lt_of_le (h.okz b h1) hw.size) (fun h1 => h1.2)
  grow := Nat.le_trans h.grow hw.size
  frame := fun b hb hl => (hw.same b (Nat.lt_of_lt_of_le hb h.grow)).trans (h.frame b hb hl)
  env := ⟨hw.env.1.trans h.env.1,hw.env.2.trans h.env.2⟩
  fr := fun b off hb => by
   rw [frozen?_block (hw.same b (Nat.lt_of_lt_of_le hb h.grow))]; exact h.fr b off hb
  room := fun b n hr => (h.room b n hr).of_block (hw.same b (h.room b n hr).lt)
  lent := fun i p h1 h2 => by rw [hE.ρ]; exact h.lent i p h1 h2
  okU := fun b hb => hE.ok b (h.okU b hb)
  okL := fun b hb => (hE.new b hb).elim (h.okL b) fun h1 => .inr (.inl (Nat.le_trans h.grow h1.1)) }
theorem Sim.ext (h : Sim φ w0 L E st a w) (hw : Ext w w') (hE : E.Le E' w w') : Sim φ w0 L E' st a w' := ⟨h.toSimE.ext hw hE,h.nodef⟩
structure TokOk (w0 : World) (L : Lent) (E : Env) (st : St) (a : Act) (w : World) (v : Value) (x : A) : Prop where
 z : ∀ k b,Tk v x k b → (¬ E.ok b ∧ Zone w0 L b ∧ b < w.heap.size) ∧ ∀ q b' o,(st.r q).isSome → E.ρ q = some (b',o) → b' ≠ b
 d : ∀ i k k' b b',Tk v x k b → Tk (a.eval (.tmp i)) (st.t i) k' b' → k ≠ k' → b ≠ b'
 s : ∀ k k' b b',Tk v x k b → Tk v x k' b' → k ≠ k' → b ≠ b'
theorem Act.eval_put_tmp {a : Act} {d : Nat} {v : Value} (hd : d < a.tmps.size) (i : Nat) : (a.put (some d) v).eval (.tmp i) = if i = d then v else a.eval (.tmp i) := by
 simp only [Act.put,Act.eval]
 by_cases h : i = d
 ·subst h; simp [hd]
 ·have : ¬ d = i := fun e => h e.symm
  simp [h,Array.getElem?_setIfInBounds_ne this]
theorem Sim.put (h : Sim φ w0 L E st a w) {d : Nat} (hd : d < a.tmps.size) {v : Value} {x : A} (hv : RV φ E st.r w v x) (ht : TokOk w0 L E st a w v x) :
 Sim φ w0 L E (st.put (some d) x) (a.put (some d) v) w := by
 have ev : ∀ i,(a.put (some d) v).eval (.tmp i) = if i = d then v else a.eval (.tmp i) := Act.eval_put_tmp hd
 exact {
  slots := fun i => by
   rw [ev]; simp only [St.put]
   by_cases hi : i = d
   ·simp only [hi,if_true]; exact hv
   ·simp only [hi,if_false]; exact h.slots i
  roots := h.roots,inj := h.inj,rz := h.rz
  tz := fun i k b => by
   rw [ev]; simp only [St.put]
   by_cases hi : i = d
   ·simp only [hi,if_true]; exact ht.z k b
   ·simp only [hi,if_false]; exact h.tz i k b
  td := fun i j k k' b b' => by
   rw [ev,ev]; simp only [St.put]
   by_cases hi : i = d <;> by_cases hj : j = d <;> simp only [hi,hj,if_true,if_false]
   ·exact ht.s k k' b b'
   ·exact ht.d j k k' b b'
   ·exact fun h1 h2 h3 h4 => ht.d i k' k b' b h2 h1 (Ne.symm h3) h4.symm
   ·exact h.td i j k k' b b'
  okz := h.okz,grow := h.grow,frame := h.frame
  nodef := h.nodef,env := h.env,fr := h.fr,room := h.room,lent := h.lent,okU := h.okU,okL := h.okL }
end
end Go.Ab
namespace Go.Ab
def chkC1 : Value → A → Bool
 | .bool a,.bool b => a == b
 | .int k n,.int k' n' => k == k' && n == n'
 | .string s,.str l => s.data.toList == l
 | .slice none 0 0,.nils _ => true
 | .slice none 0 0,.sl _ [] => true
 | .pointer none,.cst (.pointer none) | .map none,.cst (.map none) | .nilFunc,.cst .nilFunc | .nilIface,.cst .nilIface => true
 | _,_ => false
def chkCs : List Value → List A → Bool
 | [],[] => true
 | v :: vs,a :: as => chkC1 v a && chkCs vs as
 | _,_ => false
def chkC (v : Value) (a : A) : Bool :=
 match v,a with
 | .agg vs,.agg cs => chkCs vs.toList cs
 | .tuple vs,.undef => vs.size == 0
 | v,a => chkC1 v a
def chkOpd (φ : Nat → Nat) : Operand → Opd → Bool
 | .tmp t,.t i => t == i
 | .const v,.c a => chkC v a
 | .func f,.c (.fn g []) => φ g == f
 | _,_ => false
section
variable {φ : Nat → Nat} {w0 : World} {L : Lent} {E : Env} {st : St} {a : Act} {w : World} {r : Nat → Option Root} {ok : Nat → Prop}
theorem chkC1_rep {v : Value} {x : A} (h : chkC1 v x = true) : Rep φ w ok v x ∧ ∀ cs,x ≠ .agg cs := by
 unfold chkC1 at h
 split at h <;> first
  | (simp at h; done)
  | (refine ⟨?_,fun cs h => by simp at h⟩
     first
     | (simp at h; subst h; exact .bool _)
     | (simp at h; obtain ⟨rfl,rfl⟩ := h; exact .int _ _)
     | (simp only [beq_iff_eq] at h; subst h; exact .str _)
     | exact .nils _
     | exact .slE _ _ _
     | exact .cst _ rfl)
theorem chkCs_reps : ∀ {vs : List Value} {as : List A},chkCs vs as = true → Reps φ w ok vs as
 | [],[],_ => .nil
 | v :: vs,a :: as,h => by
   simp only [chkCs,Bool.and_eq_true] at h
   exact .cons _ _ _ _ (chkC1_rep h.1).1 (chkCs_reps h.2)
 | [],_ :: _,h => by simp [chkCs] at h
 | _ :: _,[],h => by simp [chkCs] at h
theorem chkC_rep {v : Value} {x : A} (h : chkC v x = true) : Rep φ w ok v x ∨ (v = Go.undef ∧ x = .undef) := by
 unfold chkC at h
 split at h
 ·rename_i vs cs
  exact .inl (by have := Rep.agg (φ := φ) (w := w) (ok := ok) _ _ (chkCs_reps h); simpa using this)
 ·rename_i vs
  simp at h
  exact .inr ⟨by rw [h]; rfl,rfl⟩
 ·exact .inl (chkC1_rep h).1
theorem Tk1.of_rep {v : Value} {x : A} {k b : Nat} (h : Rep φ w ok v x) : ¬ Tk1 v x k b := by
 intro ht; cases ht; cases h
theorem Tk.of_rep {v : Value} {x : A} {k b : Nat} (h : Rep φ w ok v x) : ¬ Tk v x k b := by
 intro ht
 cases ht with
 | one _ _ _ _ h1 => exact Tk1.of_rep h h1
 | tup => cases h
 | agg vs xs j k b v a hv ha h1 =>
   generalize hu : Value.agg vs.toArray = u at h
   cases h with
   | agg us cs h =>
     simp at hu; subst hu
     obtain ⟨a',ha',hr⟩ := h.getV hv
     rw [ha] at ha'; cases ha'
     exact Tk1.of_rep hr h1
def Copy (st : St) (a : Act) (v : Value) (x : A) : Prop := ∀ k b,Tk v x k b → ∃ i,Tk (a.eval (.tmp i)) (st.t i) k b
theorem Copy.rep {v : Value} {x : A} (h : Rep φ w ok v x) : Copy st a v x := fun k b ht => (Tk.of_rep h ht).elim
theorem Copy.tok (h : Sim φ w0 L E st a w) {v : Value} {x : A} (hc : Copy st a v x) : TokOk w0 L E st a w v x where
 z := fun k b ht => by obtain ⟨i,hi⟩ := hc k b ht; exact h.tz i k b hi
 d := fun i k k' b b' ht ht' => by obtain ⟨j,hj⟩ := hc k b ht; exact h.td j i k k' b b' hj ht'
 s := fun k k' b b' ht ht' => by
   obtain ⟨i,hi⟩ := hc k b ht
   obtain ⟨j,hj⟩ := hc k' b' ht'
   exact h.td i j k k' b b' hi hj
theorem opd_ok (h : Sim φ w0 L E st a w) {o : Operand} {x : Opd} (hx : chkOpd φ o x = true) : RV φ E st.r w (a.eval o) (x.v st) ∧ Copy st a (a.eval o) (x.v st) := by
 unfold chkOpd at hx
 split at hx
 ·rename_i t i
  simp at hx; subst hx
  exact ⟨h.slots t,fun k b ht => ⟨t,ht⟩⟩
 ·rename_i v c
  rcases chkC_rep (φ := φ) (w := w) (ok := E.ok) hx with hr | ⟨rfl,rfl⟩
  ·exact ⟨.one _ _ (.data _ _ hr),.rep hr⟩
  ·refine ⟨.one _ _ .undef,fun k b ht => ?_⟩
   cases ht with
   | one _ _ _ _ h1 => cases h1
 ·rename_i f g
  simp at hx; subst hx
  have hr : Rep φ w E.ok (.func (.func (φ g)) #[] #[]) (.fn g []) := .fn g [] [] .nil
  exact ⟨.one _ _ (.data _ _ hr),.rep hr⟩
 ·cases hx
theorem RV.int_inv {v : Value} {k : IntKind} {n : Int} (h : RV φ E r w v (.int k n)) : v = .int k n := by
 cases h with
 | one _ _ h => cases h with
   | data _ _ h => cases h; rfl
theorem RV.bool_inv {v : Value} {b : Bool} (h : RV φ E r w v (.bool b)) : v = .bool b := by
 cases h with
 | one _ _ h => cases h with
   | data _ _ h => cases h; rfl
theorem RV.str_inv {v : Value} {s : List UInt8} (h : RV φ E r w v (.str s)) : v = .string ⟨s.toArray⟩ := by
 cases h with
 | one _ _ h => cases h with
   | data _ _ h => cases h; rfl
theorem RV.undef_inv {v : Value} (h : RV φ E r w v .undef) : v = Go.undef := by
 cases h with
 | one _ _ h => cases h with
   | undef => rfl
   | data _ _ h => cases h
theorem RV.agg_inv {v : Value} {cs : List A} (h : RV φ E r w v (.agg cs)) : ∃ vs : List Value,v = .agg vs.toArray ∧ All2 (RV1 φ E r w) vs cs := by
 cases h with
 | one _ _ h => cases h with
   | data _ _ h => cases h with
     | agg vs cs h => exact ⟨vs,rfl,(All2.of_reps h).imp fun v a h => .data _ _ h⟩
 | agg vs xs h => exact ⟨vs,rfl,h⟩
theorem RV.tup_inv {v : Value} {cs : List A} (h : RV φ E r w v (.tup cs)) : ∃ vs : List Value,v = .tuple vs.toArray ∧ All2 (RV1 φ E r w) vs cs := by
 cases h with
 | one _ _ h => cases h with
   | data _ _ h => cases h
 | tup vs xs h => exact ⟨vs,rfl,h⟩
theorem RV.fn_inv {v : Value} {f : Nat} {cs : List A} (h : RV φ E r w v (.fn f cs)) : ∃ vs : List Value,v = .func (.func (φ f)) #[] vs.toArray ∧ All2 (RV1 φ E r w) vs cs := by
 cases h with
 | one _ _ h => cases h with
   | data _ _ h => cases h with
     | fn f caps vs h => exact ⟨vs,rfl,(All2.of_reps h).imp fun v a h => .data _ _ h⟩
 | fn f vs xs h _ => exact ⟨vs,rfl,h⟩
theorem Rep.noTok {v : Value} {x : A} (h : Rep φ w ok v x) : anyTok x = false := by cases h <;> rfl
theorem RV.fn_inv' {v : Value} {f : Nat} {cs : List A} (h : RV φ E r w v (.fn f cs)) : ∃ vs : List Value,v = .func (.func (φ f)) #[] vs.toArray ∧ All2 (RV1 φ E r w) vs cs ∧ ∀ x ∈ cs,anyTok x = false := by
 cases h with
 | one _ _ h => cases h with
   | data _ _ h => cases h with
     | fn f caps vs h => exact ⟨vs,rfl,(All2.of_reps h).imp fun v a h => .data _ _ h,fun x hx => by
        obtain ⟨j,hj⟩ := List.mem_iff_getElem?.1 hx
        obtain ⟨v,hv,hr⟩ := h.get hj
        exact hr.noTok⟩
 | fn f vs xs h hn => exact ⟨vs,rfl,h,hn⟩
theorem RV.view_inv {v : Value} {q off n : Nat} (h : RV φ E r w v (.view q off n)) : RV1 φ E r w v (.view q off n) := by
 cases h with
 | one _ _ h => exact h
theorem RV.loc_inv {v : Value} {q i c : Nat} (h : RV φ E r w v (.loc q i c)) : RV1 φ E r w v (.loc q i c) := by
 cases h with
 | one _ _ h => exact h
theorem RV.tok_inv {v : Value} {k z : Nat} {xs : List A} (h : RV φ E r w v (.tok k z xs)) : RV1 φ E r w v (.tok k z xs) := by
 cases h with
 | one _ _ h => exact h
theorem RV.sl_inv {v : Value} {z : Nat} {xs : List A} (h : RV φ E r w v (.sl z xs)) : Rep φ w E.ok v (.sl z xs) := by
 cases h with
 | one _ _ h => cases h with
   | data _ _ h => exact h
theorem RV.ptr_inv {v : Value} {cs : List A} {c : Nat} (h : RV φ E r w v (.ptr cs c)) : Rep φ w E.ok v (.ptr cs c) := by
 cases h with
 | one _ _ h => cases h with
   | data _ _ h => exact h
theorem RV.nils_inv {v : Value} {z : Nat} (h : RV φ E r w v (.nils z)) : v = .slice none 0 0 := by
 cases h with
 | one _ _ h => cases h with
   | data _ _ h => cases h; rfl
theorem Copy.scalar {v : Value} {x : A} (h : ∀ k b,¬ Tk v x k b) : Copy st a v x := fun k b ht => (h k b ht).elim
theorem noTk_loc {v : Value} {q i c : Nat} (j b : Nat) : ¬ Tk v (.loc q i c) j b := by
 intro h; cases h with
 | one _ _ _ _ h => cases h
theorem noTk_view {v : Value} {q i c : Nat} (j b : Nat) : ¬ Tk v (.view q i c) j b := by
 intro h; cases h with
 | one _ _ _ _ h => cases h
theorem noTk_fn {v : Value} {f : Nat} {cs : List A} (j b : Nat) : ¬ Tk v (.fn f cs) j b := by
 intro h; cases h with
 | one _ _ _ _ h => cases h
end
end Go.Ab
namespace Go.Ab
section
variable {P : Program} {φ : Nat → Nat} {w0 : World} {L : Lent} {E : Env} {st : St} {a : Act} {w : World}
def Val (P : Program) (φ : Nat → Nat) (E : Env) (st : St) (a : Act) (w : World) (S : Sem Value) (x : A) : Prop :=
 ∃ v,S.run P w = .ok v w ∧ RV φ E st.r w v x ∧ Copy st a v x
theorem Val.pure {v : Value} {x : A} (h : RV φ E st.r w v x ∧ Copy st a v x) : Val P φ E st a w (Pure.pure v) x := ⟨v,rfl,h.1,h.2⟩
theorem val_pick {c p q : Operand} {c' p' q' : Opd} (h : Sim φ w0 L E st a w) (hc : chkOpd φ c c' = true) (hp : chkOpd φ p p' = true) (hq : chkOpd φ q q' = true)
 {t : Bool} (ht : c'.v st = .bool t) : Val P φ E st a w (do Pure.pure (if ← asBool (a.eval c) then a.eval p else a.eval q)) (if t then p'.v st else q'.v st) := by
 have e := (ht ▸ (opd_ok h hc).1).bool_inv
 refine ⟨if t then a.eval p else a.eval q,by simp [e,asBool],?_⟩
 cases t
 ·exact opd_ok h hq
 ·exact opd_ok h hp
theorem World.cell?_add {w : World} {b o n : Nat} : w.cell? (Addr.add ⟨b,o,none⟩ n) = w.cell? ⟨b,o + n,none⟩ := by
 rw [Addr.add_lit]
theorem run_loadVar_one {t : TypeId} {d : TypeDesc} (ht : P.underlying t = some d) (hs : ∀ fs,d ≠ .struct fs) (ha : ∀ n e,d ≠ .array n e) {ad : Addr} {v : Value}
 (hv : w.cell? ad = some v) : (loadVar t ad).run P w = .ok v w := by
 have hi : (isAgg t).run P w = .ok false w := by
  simp only [isAgg,underlying,Sem.run_bind,run_program,Result.andThen_ok,ht]
  cases d <;> first | rfl | exact absurd rfl (hs _) | exact absurd rfl (ha _ _)
 simp only [loadVar,Sem.run_bind,hi,Result.andThen_ok]
 simp [hv]
theorem run_loadVar_agg {t : TypeId} {d : TypeDesc} {i : TypeInfo} (ht : P.underlying t = some d) (hd : (∃ fs,d = .struct fs) ∨ (∃ n e,d = .array n e)) (hi : P.info? t = some i)
 {b o : Nat} {vs : List Value} (hl : vs.length = i.size) (hv : Cells w b o vs) : (loadVar t ⟨b,o,none⟩).run P w = .ok (.agg vs.toArray) w := by
 have hg : (isAgg t).run P w = .ok true w := by
  simp only [isAgg,underlying,Sem.run_bind,run_program,Result.andThen_ok,ht]
  rcases hd with ⟨fs,rfl⟩ | ⟨n,e,rfl⟩ <;> rfl
 have hc := run_loadCells_list (P := P) (w := w) ⟨b,o,none⟩ vs (fun j v hj => by rw [World.cell?_add]; exact hv j v hj)
 simp only [loadVar,Sem.run_bind,hg,Result.andThen_ok,if_true,sizeOf,typeInfo,run_program,hi,Sem.run_pure,← hl,hc]
def cellN (P : Program) (t : TypeId) (n : Option Nat) : Bool :=
 match P.underlying t with
 | some (.struct _) | some (.array _ _) => (match P.info? t with | some i => n == some i.size | none => false)
 | some _ => n == none
 | none => false
theorem run_loadVar_cells {t : TypeId} {n : Option Nat} (hn : cellN P t n = true) {p : Value → A → Prop} {b o c : Nat} {vs : List Value} {cs : List A} (hl : All2 p vs cs) (hv : Cells w b o vs)
 {x : A} (hx : getCells cs c n = some x) : ∃ v,(loadVar t ⟨b,o + c,none⟩).run P w = .ok v w ∧
  ((n = none ∧ ∃ y,cs[c]? = some y ∧ x = y ∧ p v y) ∨
    (∃ m us,n = some m ∧ v = .agg us ∧ us.toList = (vs.drop c).take m ∧ x = .agg (((cs.drop c).take m).map normC) ∧ c + m ≤ cs.length)) := by
 unfold cellN at hn
 cases n with
 | none =>
   simp only [getCells] at hx
   obtain ⟨v,hv1,hp⟩ := hl.get hx
   have hcell := hv c v hv1
   split at hn
   ·rename_i d hd; split at hn <;> simp at hn
   ·rename_i d hd; split at hn <;> simp at hn
   ·rename_i d h1 h2 hd
    exact ⟨v,run_loadVar_one hd (fun fs e => h1 fs e) (fun n e e' => h2 n e e') hcell,.inl ⟨rfl,x,hx,rfl,hp⟩⟩
   ·cases hn
 | some m =>
   simp only [getCells] at hx
   split at hx
   ·rename_i hcm
    simp only [Option.some.injEq] at hx
    have key : ∀ d i,P.underlying t = some d → P.info? t = some i → (∃ fs,d = .struct fs) ∨ (∃ n e,d = .array n e) → m = i.size →
     ∃ v,(loadVar t ⟨b,o + c,none⟩).run P w = .ok v w ∧ ((some m = none ∧ ∃ y,cs[c]? = some y ∧ x = y ∧ p v y) ∨
       (∃ m' us,some m = some m' ∧ v = .agg us ∧ us.toList = (vs.drop c).take m' ∧ x = .agg (((cs.drop c).take m').map normC) ∧ c + m' ≤ cs.length)) := by
     intro d i hd hi hk hm
     refine ⟨_,run_loadVar_agg (vs := (vs.drop c).take m) hd hk hi (by simp [hl.1]; omega) ((hv.drop c).take m),.inr ⟨m,_,rfl,rfl,by simp,hx.symm,hcm⟩⟩
    split at hn
    ·rename_i fs hd
     split at hn
     ·rename_i i hi; simp at hn; exact key _ i hd hi (.inl ⟨_,rfl⟩) hn
     ·cases hn
    ·rename_i len e hd
     split at hn
     ·rename_i i hi; simp at hn; exact key _ i hd hi (.inr ⟨_,_,rfl⟩) hn
     ·cases hn
    ·simp at hn
    ·cases hn
   ·cases hx
theorem Rep.norm {ok : Nat → Prop} {v : Value} {x : A} (h : Rep φ w ok v x) : Rep φ w ok v (normC x) := by
 cases h with
 | nils z => exact .slE _ _ _
 | _ => simp only [normC]; constructor <;> assumption
theorem Reps.norm {ok : Nat → Prop} : ∀ {vs : List Value} {xs : List A},Reps φ w ok vs xs → Reps φ w ok vs (xs.map normC)
 | _,_,.nil => .nil
 | _,_,.cons v a vs as h t => .cons _ _ _ _ h.norm t.norm
theorem CellOk.rv {r : Nat → Option Root} {q c : Nat} {v : Value} {x : A} (h : CellOk φ E r w q c v x) : RV1 φ E r w v x := by
 cases h with
 | data _ h => exact .data _ _ h
 | any => exact .any _
 | view off n _ h _ => exact h
theorem CellOk.noTk {r : Nat → Option Root} {q c : Nat} {v : Value} {x : A} (h : CellOk φ E r w q c v x) (k b : Nat) : ¬ Tk1 v x k b := by
 cases h with
 | data _ h => exact Tk1.of_rep h
 | any => intro h; cases h
 | view off n _ h _ => intro h; cases h
theorem RV1.norm {r : Nat → Option Root} {v : Value} {x : A} (h : RV1 φ E r w v x) : RV1 φ E r w v (normC x) := by
 cases x with
 | nils z => cases h with | data _ _ h => exact .data _ _ h.norm
 | _ => exact h
theorem All2.dropTake {p : Value → A → Prop} {vs : List Value} {cs : List A} (h : All2 p vs cs) (c n : Nat) : All2 p ((vs.drop c).take n) ((cs.drop c).take n) :=
 ⟨by simp [h.1],fun j v a hv ha => by
   rw [List.getElem?_take] at hv ha
   split at hv
   ·rename_i hj; rw [if_pos hj] at ha
    exact h.2 (c + j) v a (by simpa using hv) (by simpa using ha)
   ·cases hv⟩
theorem All2.map {p q : Value → A → Prop} {f : A → A} {vs : List Value} {cs : List A} (h : All2 p vs cs) (hf : ∀ v a,p v a → q v (f a)) : All2 q vs (cs.map f) :=
 ⟨by simp [h.1],fun j v a hv ha => by
   simp only [List.getElem?_map,Option.map_eq_some_iff] at ha
   obtain ⟨b,hb,rfl⟩ := ha
   exact hf _ _ (h.2 j v b hv hb)⟩
theorem agg_noTk {vs : List Value} {cs : List A} (h : ∀ (j : Nat) v x,vs[j]? = some v → cs[j]? = some x → ∀ k b,¬ Tk1 v x k b) (k b : Nat) : ¬ Tk (.agg vs.toArray) (.agg cs) k b := by
 intro ht
 generalize hu : Value.agg vs.toArray = u at ht
 cases ht with
 | one _ _ _ _ h1 => cases h1
 | agg us xs j k b v x hv hx h1 => simp at hu; subst hu; exact h j v x hv hx k b h1
theorem val_ld {t : TypeId} {n : Option Nat} {p : Operand} {p' : Opd} (h : Sim φ w0 L E st a w) (hp : chkOpd φ p p' = true) (hn : cellN P t n = true) {x : A}
 (hx : (match p'.v st with
  | .loc q i c => (st.r q).bind fun R => (R.xs[i]?).bind fun x => getCells x.cells c n
  | .ptr cs c => getCells cs c n
  | _ => none) = some x) : Val P φ E st a w (Instr.loadAt t (a.eval p)) x := by
 have hv := (opd_ok h hp).1
 split at hx
 ·rename_i q i c e
  rw [e] at hv
  have h1 := hv.loc_inv
  obtain ⟨R,hR,hx⟩ := Option.bind_eq_some_iff.1 hx
  obtain ⟨y,hy,hx⟩ := Option.bind_eq_some_iff.1 hx
  generalize a.eval p = v at h1
  cases h1 with
  | data _ _ h1 => cases h1
  | locN _ _ _ _ h1 => rw [h1] at hR; cases hR
  | loc b o _ _ _ R' h1 hρ =>
    rw [h1] at hR; cases hR
    have hel : ∃ us,All2 (fun v x => RV1 φ E st.r w v x ∧ ∀ k b,¬ Tk1 v x k b) us y.cells ∧ Cells w b (o + i * R.z) us := by
     have hro := h.roots q R h1
     cases hro with
     | empty z h2 => simp at hy
     | sl b' o' z xs vs hρ' hz hr hc hm =>
       rw [hρ] at hρ'; cases hρ'
       simp only at hy
       refine ⟨(vs.drop (i * z)).take y.cells.length,?_,(hc.drop _).take _⟩
       have e1 : y.cells = ((xs.flatMap A.cells).drop (i * z)).take y.cells.length := by
        rw [← flat_drop hz,List.drop_eq_getElem_cons (List.getElem?_eq_some_iff.1 hy).1,(List.getElem?_eq_some_iff.1 hy).2,List.flatMap_cons,List.take_left]
       have := (All2.of_reps hr).dropTake (i * z) y.cells.length
       rw [← e1] at this
       exact this.imp fun v x hr => ⟨.data _ _ hr,fun k b => Tk1.of_rep hr⟩
     | box b' o' z x' vs hρ' hz hlt hl hcell hc hm =>
       rw [hρ] at hρ'; cases hρ'
       simp only at hy
       cases i with
       | succ i => simp at hy
       | zero =>
         simp at hy; subst hy
         refine ⟨vs,⟨hl,fun j v a hv ha => ⟨(hcell j v a hv ha).rv,(hcell j v a hv ha).noTk⟩⟩,by simpa using hc⟩
    obtain ⟨us,hu,hc⟩ := hel
    obtain ⟨v,hrun,hcase⟩ := run_loadVar_cells hn hu hc hx
    refine ⟨v,by simp [Instr.loadAt,Instr.sureAddr,hrun],?_⟩
    rcases hcase with ⟨rfl,y',hy',rfl,hp1,hp2⟩ | ⟨m,us',rfl,rfl,hus,rfl,hcm⟩
    ·exact ⟨.one _ _ hp1,.scalar fun k b ht => by
      cases ht with
      | one _ _ _ _ h1 => exact hp2 _ _ h1
      | tup => cases hp1 with | data _ _ h => cases h
      | agg vs xs j k b v' a' hv' ha' h1 =>
        generalize hg : Value.agg vs.toArray = g at hp1
        cases hp1 with
        | data _ _ hr =>
          subst hg
          exact Tk.of_rep hr (.agg vs xs j k b v' a' hv' ha' h1)⟩
    ·obtain ⟨us',rfl⟩ : ∃ l : List Value,us' = l.toArray := ⟨us'.toList,by simp⟩
     simp only at hus
     have h2 := hu.dropTake c m
     rw [← hus] at h2
     refine ⟨.agg _ _ (h2.map fun v x hh => hh.1.norm),.scalar (agg_noTk fun j v x hv hx k b h1 => ?_)⟩
     simp only [List.getElem?_map,Option.map_eq_some_iff] at hx
     obtain ⟨x',hx',rfl⟩ := hx
     have h3 := h2.2 j v x' hv hx'
     refine h3.2 k b ?_
     cases x' <;> first | exact h1 | (simp only [normC] at h1; cases h1)
 ·rename_i cs c e
  rw [e] at hv
  have h1 := hv.ptr_inv
  generalize a.eval p = v at h1
  cases h1 with
  | ptr b o _ _ vs hb hr hc =>
    obtain ⟨v,hrun,hcase⟩ := run_loadVar_cells hn (All2.of_reps hr) hc hx
    refine ⟨v,by simp [Instr.loadAt,Instr.sureAddr,hrun],?_⟩
    rcases hcase with ⟨rfl,y',hy',rfl,hp1⟩ | ⟨m,us',rfl,rfl,hus,rfl,hcm⟩
    ·exact ⟨.one _ _ (.data _ _ hp1),.rep hp1⟩
    ·obtain ⟨us',rfl⟩ : ∃ l : List Value,us' = l.toArray := ⟨us'.toList,by simp⟩
     simp only at hus
     subst hus
     have hrep : Rep φ w E.ok (.agg ((vs.drop c).take m).toArray) (.agg (((cs.drop c).take m).map normC)) := .agg _ _ ((hr.drop c).take m).norm
     exact ⟨.one _ _ (.data _ _ hrep),.rep hrep⟩
 ·cases hx
end
end Go.Ab
namespace Go.Ab
section
variable {P : Program} {φ : Nat → Nat} {w0 : World} {L : Lent} {E : Env} {st : St} {a : Act} {w : World}
theorem val_scalar {S : Sem Value} {v : Value} {x : A} (hs : S.run P w = .ok v w) (hr : Rep φ w E.ok v x) : Val P φ E st a w S x :=
 ⟨v,hs,.one _ _ (.data _ _ hr),.rep hr⟩
theorem run_intOp {op : BinOp} {k : IntKind} {m n : Int} {x : A} (h : intA op k m n = some x) : ∃ v,((binOp op 0 (.int k m) (.int k n)).run P w = .ok v w) ∧ Rep φ w E.ok v x := by
 cases op <;> simp only [intA] at h <;> first
  | (cases h; done)
  | (simp only [Option.some.injEq] at h; subst h
     exact ⟨_,by simp only [binOp,ne_eq,not_true,if_false]; rfl,by first | exact .int _ _ | exact .bool _⟩)
  | (split at h
     ·cases h
     ·rename_i h0
      simp only [Option.some.injEq] at h; subst h
      exact ⟨_,by simp only [binOp,ne_eq,not_true,if_false,Op.intDiv,h0]; rfl,.int _ _⟩)
theorem binOp_int_type {op : BinOp} {t : TypeId} {k k' : IntKind} {m n : Int} : binOp op t (.int k m) (.int k' n) = binOp op 0 (.int k m) (.int k' n) := by
 cases op <;> rfl
theorem run_shiftOp {op : BinOp} {t : TypeId} {k k' : IntKind} {m n : Int} {x : A} (hs : isShift op = true) (h : shiftA op k m n = some x) :
 ∃ v,((binOp op t (.int k m) (.int k' n)).run P w = .ok v w) ∧ Rep φ w E.ok v x := by
 unfold shiftA at h
 split at h
 ·cases h
 ·rename_i h0
  cases op <;> simp [isShift] at hs <;> (simp only [Option.some.injEq] at h; subst h; exact ⟨_,by simp only [binOp,Op.shift,h0,if_false]; rfl,.int _ _⟩)
theorem toList_mk (s : List UInt8) : (ByteArray.mk s.toArray).toList = s := by
 rw [ByteArray.toList_eq]
theorem run_strOp {op : BinOp} {t : TypeId} {m n : List UInt8} {x : A} (h : strA op m n = some x) :
 ∃ v,((binOp op t (.string ⟨m.toArray⟩) (.string ⟨n.toArray⟩)).run P w = .ok v w) ∧ Rep φ w E.ok v x := by
 have e1 := toList_mk m
 have e2 := toList_mk n
 cases op <;> simp only [strA] at h <;> first
  | (cases h; done)
  | (simp only [Option.some.injEq] at h; subst h
     exact ⟨_,by simp only [binOp,Op.stringOp,e1,e2]; rfl,.bool _⟩)
  | (split at h
     ·rename_i h0
      simp only [Option.some.injEq] at h; subst h
      refine ⟨.string ⟨(m ++ n).toArray⟩,?_,.str _⟩
      have h1 : ¬ ((((ByteArray.mk m.toArray).size + (ByteArray.mk n.toArray).size : Nat) : Int) > IntKind.i64.max) := by
       simp only [ByteArray.size,List.size_toArray,IntKind.max_i64]
       simp only [strMax] at h0
       omega
      have h2 : (ByteArray.mk m.toArray) ++ (ByteArray.mk n.toArray) = ⟨(m ++ n).toArray⟩ := by
       apply ByteArray.ext; simp
      simp only [binOp,Op.stringOp,h1,if_false,h2]; rfl
     ·cases h)
theorem val_bin {op : BinOp} {t u : TypeId} {x y : Operand} {x' y' : Opd} (h : Sim φ w0 L E st a w) (hx : chkOpd φ x x' = true) (hy : chkOpd φ y y' = true) {r : A}
 (hr : binA op (x'.v st) (y'.v st) = some r) : Val P φ E st a w (do eqGuard op t x y (a.eval x) (a.eval y); binOp op t (a.eval x) (a.eval y)) r := by
 have vx := (opd_ok h hx).1
 have vy := (opd_ok h hy).1
 unfold binA at hr
 split at hr
 ·rename_i k m k' n e1 e2
  rw [e1] at vx; rw [e2] at vy
  have ex := vx.int_inv
  have ey := vy.int_inv
  have hg : eqGuard op t x y (.int k m) (.int k' n) = Pure.pure () := eqGuard_at_int ..
  rw [ex,ey,hg]
  split at hr
  ·rename_i hs
   obtain ⟨v,h1,h2⟩ := run_shiftOp (P := P) (φ := φ) (E := E) (w := w) (t := t) (k' := k') hs hr
   exact val_scalar (by simpa using h1) h2
  ·split at hr
   ·rename_i hk; subst hk
    obtain ⟨v,h1,h2⟩ := run_intOp (P := P) (φ := φ) (E := E) (w := w) hr
    exact val_scalar (by simp only [Sem.run_bind,Sem.run_pure,Result.andThen_ok]; rw [binOp_int_type]; exact h1) h2
   ·cases hr
 ·rename_i m n e1 e2
  rw [e1] at vx; rw [e2] at vy
  have ex := vx.str_inv
  have ey := vy.str_inv
  have hg : eqGuard op t x y (.string ⟨m.toArray⟩) (.string ⟨n.toArray⟩) = Pure.pure () := eqGuard_at_string ..
  rw [ex,ey,hg]
  obtain ⟨v,h1,h2⟩ := run_strOp (P := P) (φ := φ) (E := E) (w := w) (t := t) hr
  exact val_scalar (by simpa using h1) h2
 ·cases hr
def kdOf (P : Program) (t : TypeId) : Option Kd :=
 match P.underlying t with
 | some .bool => some .b
 | some (.int _) => some .i
 | some .string => some .s
 | _ => none
def kdEq : Option Kd → Kd → Bool
 | some .b,.b | some .i,.i | some .s,.s => true
 | _,_ => false
def fieldsOk (P : Program) : Nat → List Field → List Kd → Bool
 | _,[],[] => true
 | i,f :: fs,k :: ks => f.name != "_" && f.offset == i && kdEq (kdOf P f.type) k && fieldsOk P (i + 1) fs ks
 | _,_,_ => false
def chkEqs (P : Program) (t : TypeId) (ks : List Kd) : Bool :=
 match P.underlying t with
 | some (.struct fs) => fieldsOk P 0 fs.toList ks && !P.stoodInHeld t && !P.eqGuardType P.depth t
 | _ => false
theorem kd_und {t : TypeId} {k : Kd} (h : kdEq (kdOf P t) k = true) :
 (k = .b ∧ P.underlying t = some .bool) ∨ (k = .i ∧ ∃ j,P.underlying t = some (.int j)) ∨ (k = .s ∧ P.underlying t = some .string) := by
 unfold kdOf at h
 split at h <;> cases k <;> simp [kdEq] at h
 ·rename_i e; exact .inl ⟨rfl,e⟩
 ·rename_i j e; exact .inr (.inl ⟨rfl,j,e⟩)
 ·rename_i e; exact .inr (.inr ⟨rfl,e⟩)
theorem run_part_one {t : TypeId} {d : TypeDesc} (ht : P.underlying t = some d) (hs : ∀ fs,d ≠ .struct fs) (ha : ∀ n e,d ≠ .array n e) {vs : List Value} {i : Nat} {v : Value}
 (hv : vs[i]? = some v) : (part t vs.toArray i).run P w = .ok v w := by
 have hi : (isAgg t).run P w = .ok false w := by
  simp only [isAgg,underlying,Sem.run_bind,run_program,Result.andThen_ok,ht]
  cases d <;> first | rfl | exact absurd rfl (hs _) | exact absurd rfl (ha _ _)
 simp only [part,Sem.run_bind,hi,Result.andThen_ok]
 simp [hv]
theorem run_eqFields {r : Nat → Option Root} {d : Nat} {xs ys : List Value} {cs ds : List A} (hx : All2 (RV1 φ E r w) xs cs) (hy : All2 (RV1 φ E r w) ys ds) :
 ∀ (fs : List Field) (ks : List Kd) (i : Nat) (e : Bool),fieldsOk P i fs ks = true → eqCells ks (cs.drop i) (ds.drop i) = some e →
   (Op.eqFields (d + 1) xs.toArray ys.toArray fs).run P w = .ok e w := by
 intro fs
 induction fs with
 | nil =>
   intro ks i e hf he
   cases ks with
   | nil =>
     cases h1 : cs.drop i <;> cases h2 : ds.drop i <;> simp [h1,h2,eqCells] at he
     subst he
     simp [Op.eqFields]
   | cons k ks => simp [fieldsOk] at hf
 | cons f fs ih =>
   intro ks i e hf he
   cases ks with
   | nil => simp [fieldsOk] at hf
   | cons k ks =>
     simp only [fieldsOk,Bool.and_eq_true,bne_iff_ne,beq_iff_eq] at hf
     obtain ⟨⟨⟨hn,ho⟩,hk⟩,hf⟩ := hf
     cases h1 : cs.drop i with
     | nil => simp [h1,eqCells] at he
     | cons p cs' =>
       cases h2 : ds.drop i with
       | nil => simp [h1,h2,eqCells] at he
       | cons q ds' =>
         simp only [h1,h2,eqCells] at he
         obtain ⟨b,hb,he⟩ := Option.bind_eq_some_iff.1 he
         obtain ⟨b',hb',rfl⟩ := Option.map_eq_some_iff.1 he
         have e1 : cs.drop (i + 1) = cs' := by rw [← List.drop_drop,h1]; rfl
         have e2 : ds.drop (i + 1) = ds' := by rw [← List.drop_drop,h2]; rfl
         have hci : cs[i]? = some p := by
          have := congrArg (·[0]?) h1; simpa using this
         have hdi : ds[i]? = some q := by
          have := congrArg (·[0]?) h2; simpa using this
         obtain ⟨u,hu,ru⟩ := hx.get hci
         obtain ⟨v,hv,rv⟩ := hy.get hdi
         have hrec := ih ks (i + 1) b' hf (by rw [e1,e2]; exact hb')
         have key : ∀ dd,P.underlying f.type = some dd → (∀ fs,dd ≠ .struct fs) → (∀ n e,dd ≠ .array n e) → (Op.equalIn (d + 1) f.type u v).run P w = .ok b w →
          (Op.eqFields (d + 1) xs.toArray ys.toArray (f :: fs)).run P w = .ok (b && b') w := by
          intro dd hdd hs ha heq
          have p1 := run_part_one (w := w) hdd hs ha hu
          have p2 := run_part_one (w := w) hdd hs ha hv
          simp only [Op.eqFields,hn,ne_eq,not_false_iff,if_true,ho,Sem.run_bind,p1,p2,heq,Result.andThen_ok]
          cases b
          ·simp
          ·simp only [Bool.not_true,Bool.false_eq_true,if_false,hrec,Bool.true_and]
         rcases kd_und hk with ⟨rfl,hd⟩ | ⟨rfl,j,hd⟩ | ⟨rfl,hd⟩
         ·cases p <;> cases q <;> simp [eqCell] at hb
          subst hb
          cases ru with | data _ _ ru => cases rv with | data _ _ rv => cases ru; cases rv; exact key _ hd (by simp) (by simp) (run_equalIn_bool' _ _ _ _ _ hd)
         ·cases p <;> cases q <;> simp [eqCell] at hb
          obtain ⟨rfl,rfl⟩ := hb
          cases ru with | data _ _ ru => cases rv with | data _ _ rv => cases ru; cases rv; exact key _ hd (by simp) (by simp) (run_equalIn_int _ _ _ _ _ _ _ hd)
         ·cases p <;> cases q <;> simp [eqCell] at hb
          subst hb
          cases ru with | data _ _ ru => cases rv with | data _ _ rv => cases ru; cases rv; exact key _ hd (by simp) (by simp) (by rw [run_equalIn_string _ _ _ _ _ hd,toList_mk,toList_mk])
theorem val_eqs {neq : Bool} {ks : List Kd} {op : BinOp} {t : TypeId} {x y : Operand} {x' y' : Opd} (h : Sim φ w0 L E st a w) (hop : op = if neq then .neq else .eql)
 (hx : chkOpd φ x x' = true) (hy : chkOpd φ y y' = true) (hk : chkEqs P t ks = true) {r : A}
 (hr : (match x'.v st,y'.v st with
  | .agg a,.agg b => (eqCells ks a b).map fun e => A.bool (if neq then !e else e)
  | _,_ => none) = some r) :
 Val P φ E st a w (do eqGuard op t x y (a.eval x) (a.eval y); binOp op t (a.eval x) (a.eval y)) r := by
 have vx := (opd_ok h hx).1
 have vy := (opd_ok h hy).1
 split at hr
 ·rename_i cs ds e1 e2
  rw [e1] at vx; rw [e2] at vy
  obtain ⟨e,he,rfl⟩ := Option.map_eq_some_iff.1 hr
  obtain ⟨xs,ex,hxs⟩ := vx.agg_inv
  obtain ⟨ys,ey,hys⟩ := vy.agg_inv
  rw [ex,ey]
  unfold chkEqs at hk
  split at hk
  ·rename_i fs hfs
   simp only [Bool.and_eq_true,Bool.not_eq_true'] at hk
   obtain ⟨⟨hk1,hk2⟩,hk3⟩ := hk
   have hfo : P.fieldsOf t = fs := by simp [Program.fieldsOf,hfs]
   have hrun : (Op.equalIn 10000 t (.agg xs.toArray) (.agg ys.toArray)).run P w = .ok e w := by
    rw [run_equalIn_struct w 9999 t _ _ (by rw [hfo]; exact hfs) hk2,hfo]
    exact run_eqFields (d := 9998) hxs hys fs.toList ks 0 e hk1 he
   refine val_scalar (v := .bool (if neq then !e else e)) ?_ (.bool _)
   subst hop
   cases neq
   ·simp only [Sem.run_bind,run_eqGuard_agg w _ t x y _ _ hk3,Result.andThen_ok,Bool.false_eq_true,if_false,run_eql_struct,hrun]
   ·simp only [Sem.run_bind,run_eqGuard_agg w _ t x y _ _ hk3,Result.andThen_ok,if_true,run_neq_struct,hrun]
  ·cases hk
 ·cases hr
theorem val_eqb {neq : Bool} {op : BinOp} {t : TypeId} {x y : Operand} {x' y' : Opd} (h : Sim φ w0 L E st a w) (hop : op = if neq then .neq else .eql)
 (hx : chkOpd φ x x' = true) (hy : chkOpd φ y y' = true) (ht : P.underlying t = some .bool) {r : A}
 (hr : (match x'.v st,y'.v st with | .bool a,.bool b => some (A.bool (if neq then !(a == b) else a == b)) | _,_ => none) = some r) :
 Val P φ E st a w (do eqGuard op t x y (a.eval x) (a.eval y); binOp op t (a.eval x) (a.eval y)) r := by
 have vx := (opd_ok h hx).1
 have vy := (opd_ok h hy).1
 split at hr
 ·rename_i m n e1 e2
  rw [e1] at vx; rw [e2] at vy
  rw [vx.bool_inv,vy.bool_inv]
  simp only [Option.some.injEq] at hr
  subst hr
  refine val_scalar (v := .bool (if neq then !(m == n) else m == n)) ?_ (.bool _)
  have hq := run_equalIn_bool' w 9999 t m n ht
  subst hop
  cases neq <;> simp [eqGuard_at_bool,binOp,Op.equal,Op.maxDepth,hq]
 ·cases hr
theorem val_un {op : UnOp} {x : Operand} {x' : Opd} (h : Sim φ w0 L E st a w) (hx : chkOpd φ x x' = true) {r : A} (hr : unA op (x'.v st) = some r) :
 Val P φ E st a w (Op.unary op (a.eval x)) r := by
 have vx := (opd_ok h hx).1
 unfold unA at hr
 split at hr
 ·rename_i k n e
  rw [e] at vx; rw [vx.int_inv]
  simp only [Option.some.injEq] at hr; subst hr
  exact val_scalar rfl (.int _ _)
 ·rename_i b e
  rw [e] at vx; rw [vx.bool_inv]
  simp only [Option.some.injEq] at hr; subst hr
  exact val_scalar rfl (.bool _)
 ·cases hr
theorem val_nilck {x : Operand} {x' : Opd} (h : Sim φ w0 L E st a w) (hx : chkOpd φ x x' = true) {o : Oper} (ho : o.op = .nilCheck x) {r : A}
 (hr : (match x'.v st with
  | .loc q i c => (st.r q).map fun _ => A.loc q i c
  | .ptr cs c => some (.ptr cs c)
  | .fn f caps => some (.fn f caps)
  | _ => none) = some r) :
 ∃ v,(execOp a.eval o).run P w = .ok (.value v) w ∧ RV φ E st.r w v r ∧ Copy st a v r := by
 have hc := opd_ok h hx
 have vx := hc.1
 split at hr
 ·rename_i q i c e
  obtain ⟨R0,hs,rfl⟩ := Option.map_eq_some_iff.1 hr
  rw [e] at hc vx
  have h1 := vx.loc_inv
  generalize hv : a.eval x = v at h1 hc
  cases h1 with
  | data _ _ h1 => cases h1
  | locN _ _ _ _ h1 => rw [h1] at hs; cases hs
  | loc b o _ _ _ R h1 hρ => exact ⟨_,by simp [execOp,ho,hv],hc.1,hc.2⟩
 ·rename_i cs c e
  simp only [Option.some.injEq] at hr; subst hr
  rw [e] at hc vx
  have h1 := vx.ptr_inv
  generalize hv : a.eval x = v at h1 hc
  cases h1 with
  | ptr b o _ _ vs hb hr hcc => exact ⟨_,by simp [execOp,ho,hv],hc.1,hc.2⟩
 ·rename_i f caps e
  simp only [Option.some.injEq] at hr; subst hr
  rw [e] at hc vx
  obtain ⟨vs,ev,_⟩ := vx.fn_inv
  rw [ev] at hc
  exact ⟨_,by simp [execOp,ho,ev],hc.1,hc.2⟩
 ·cases hr
theorem val_len {t ty e : TypeId} {x : Operand} {x' : Opd} (h : Sim φ w0 L E st a w) (hx : chkOpd φ x x' = true) (ht : P.underlying t = some (.slice e)) {n : Nat} (hn : lenA st.r (x'.v st) = some n) :
 Val P φ E st a w (Builtin.len_ #[t] ty #[a.eval x]) (.int .i64 n) := by
 have vx := (opd_ok h hx).1
 have key : ∀ (v : Value) ad cap,v = .slice ad n cap → Val P φ E st a w (Builtin.len_ #[t] ty #[v]) (.int .i64 n) := by
  rintro v ad cap rfl
  exact val_scalar (by simp [Builtin.len_,run_underlying ht,goInt]) (.int _ _)
 unfold lenA at hn
 generalize a.eval x = v at vx
 split at hn <;> (try (cases hn; done)) <;> rename_i e <;> rw [e] at vx
 ·simp only [Option.some.injEq] at hn; subst hn
  cases vx.sl_inv with
  | slE ad cap z => exact key _ ad cap rfl
  | sl b o cap z xs vs hb hz hc hr hcc => exact key _ _ cap rfl
 ·simp only [Option.some.injEq] at hn; subst hn
  cases vx.tok_inv with
  | data _ _ h1 => cases h1
  | tokE ad k z => exact key _ ad 0 rfl
  | tok b o cap k z xs vs hc h0 hz hr hcc hm => exact key _ _ cap rfl
 ·simp only [Option.some.injEq] at hn; subst hn
  exact key _ none 0 vx.nils_inv
 ·obtain ⟨R0,hR,rfl⟩ := Option.map_eq_some_iff.1 hn
  cases vx.view_inv with
  | data _ _ h1 => cases h1
  | viewN _ _ _ _ h1 => rw [h1] at hR; cases hR
  | viewE ad q off R h1 hb hn => exact key _ ad 0 rfl
  | view b o cap q off n R h1 hb hn hc h0 hρ hm => exact key _ _ cap rfl
theorem val_lens {t ty : TypeId} {x : Operand} {x' : Opd} (h : Sim φ w0 L E st a w) (hx : chkOpd φ x x' = true) (ht : P.underlying t = some .string) {r : A}
 (hr : (match x'.v st with | .str s => some (A.int .i64 s.length) | _ => none) = some r) :
 Val P φ E st a w (Builtin.len_ #[t] ty #[a.eval x]) r := by
 have vx := (opd_ok h hx).1
 split at hr
 ·rename_i s e
  simp only [Option.some.injEq] at hr; subst hr
  rw [e] at vx
  rw [vx.str_inv]
  refine val_scalar (v := .int .i64 s.length) ?_ (.int _ _)
  simp [Builtin.len_,run_underlying ht,goInt]
  show ((s.toArray.size : Nat) : Int) = _
  simp
 ·cases hr
end
end Go.Ab
namespace Go.Ab
section
variable {P : Program} {φ : Nat → Nat} {w0 : World} {L : Lent} {E : Env} {st : St} {a : Act} {w : World}
theorem RV1.loc_at {r : Nat → Option Root} {v : Value} {q i c : Nat} (h : RV1 φ E r w v (.loc q i c)) {R : Root} (hR : r q = some R) :
 ∃ b o,E.ρ q = some (b,o) ∧ v = .pointer (some ⟨b,o + i * R.z + c,none⟩) := by
 cases h with
 | data _ _ h => cases h
 | locN _ _ _ _ h => rw [h] at hR; cases hR
 | loc b o _ _ _ R' h hρ => rw [h] at hR; cases hR; exact ⟨b,o,hρ,rfl⟩
theorem Rep.ptr_at {ok : Nat → Prop} {v : Value} {cs : List A} {c : Nat} (h : Rep φ w ok v (.ptr cs c)) :
 ∃ b o vs,v = .pointer (some ⟨b,o + c,none⟩) ∧ ok b ∧ Reps φ w ok vs cs ∧ Cells w b o vs := by
 cases h with
 | ptr b o c cs vs hb hr hc => exact ⟨b,o,vs,rfl,hb,hr,hc⟩
theorem rv_ptr {r : Nat → Option Root} {b o c : Nat} {cs : List A} {vs : List Value} (hb : E.ok b) (h : Reps φ w E.ok vs cs) (hv : Cells w b o vs) {v : Value}
 (he : v = .pointer (some ⟨b,o + c,none⟩)) : RV φ E r w v (.ptr cs c) ∧ Copy st a v (.ptr cs c) := by
 subst he
 have hr : Rep φ w E.ok (.pointer (some ⟨b,o + c,none⟩)) (.ptr cs c) := .ptr b o c cs vs hb h hv
 exact ⟨.one _ _ (.data _ _ hr),.rep hr⟩
theorem rv_loc {r : Nat → Option Root} {b o q i c : Nat} {R : Root} (hR : r q = some R) (hρ : E.ρ q = some (b,o)) {v : Value}
 (he : v = .pointer (some ⟨b,o + i * R.z + c,none⟩)) : RV φ E r w v (.loc q i c) ∧ Copy st a v (.loc q i c) := by
 subst he
 exact ⟨.one _ _ (.loc b o q i c R hR hρ),.scalar noTk_loc⟩
def chkFa (P : Program) (t : TypeId) (f off : Nat) : Bool :=
 match P.underlying t with
 | some (.struct fs) => (match fs[f]? with
   | some fd => fd.offset == off && (match P.info? fd.type with | some i => i.size != 0 | none => false)
   | none => false)
 | _ => false
theorem run_fieldAt {t : TypeId} {f off : Nat} (h : chkFa P t f off = true) (b o : Nat) :
 (Instr.fieldAt t (.pointer (some ⟨b,o,none⟩)) f).run P w = .ok (.pointer (some ⟨b,o + off,none⟩)) w := by
 unfold chkFa at h
 split at h
 ·rename_i fs hfs
  split at h
  ·rename_i fd hfd
   simp only [Bool.and_eq_true,beq_iff_eq] at h
   obtain ⟨rfl,h⟩ := h
   split at h
   ·rename_i i hi
    simp at h
    simp [Instr.fieldAt,underlying,hfs,hfd,Instr.sureAddr,fieldPlace,sizeOf,typeInfo,hi,h,Addr.add_lit]
   ·cases h
  ·cases h
 ·cases h
theorem val_fa {t : TypeId} {f off : Nat} {x : Operand} {x' : Opd} (h : Sim φ w0 L E st a w) (hx : chkOpd φ x x' = true) (hc : chkFa P t f off = true) {r : A}
 (hr : (match x'.v st with
  | .loc q i c => (st.r q).map fun _ => A.loc q i (c + off)
  | .ptr cs c => some (.ptr cs (c + off))
  | _ => none) = some r) : Val P φ E st a w (Instr.fieldAt t (a.eval x) f) r := by
 have vx := (opd_ok h hx).1
 split at hr
 ·rename_i q i c e
  obtain ⟨R,hR,rfl⟩ := Option.map_eq_some_iff.1 hr
  rw [e] at vx
  obtain ⟨b,o,hρ,ev⟩ := vx.loc_inv.loc_at hR
  rw [ev]
  exact ⟨_,run_fieldAt hc _ _,rv_loc hR hρ (by simp [Nat.add_assoc])⟩
 ·rename_i cs c e
  simp only [Option.some.injEq] at hr; subst hr
  rw [e] at vx
  obtain ⟨b,o,vs,ev,hb,hrs,hcs⟩ := vx.ptr_inv.ptr_at
  rw [ev]
  exact ⟨_,run_fieldAt hc _ _,rv_ptr hb hrs hcs (by simp [Nat.add_assoc])⟩
 ·cases hr
theorem run_part_cells {t : TypeId} {n : Option Nat} (hn : cellN P t n = true) {r : Nat → Option Root} {c : Nat} {vs : List Value} {cs : List A} (hl : All2 (RV1 φ E r w) vs cs)
 {x : A} (hx : getCells cs c n = some x) : ∃ v,(part t vs.toArray c).run P w = .ok v w ∧ RV φ E r w v x ∧ ∀ k b,Tk v x k b → Tk (.agg vs.toArray) (.agg cs) k b := by
 unfold cellN at hn
 cases n with
 | none =>
   simp only [getCells] at hx
   obtain ⟨v,hv1,hp⟩ := hl.get hx
   have key : ∀ d,P.underlying t = some d → (∀ fs,d ≠ .struct fs) → (∀ n e,d ≠ .array n e) → ∃ v,(part t vs.toArray c).run P w = .ok v w ∧ RV φ E r w v x ∧ ∀ k b,Tk v x k b → Tk (.agg vs.toArray) (.agg cs) k b := by
    intro d hd h1 h2
    refine ⟨v,run_part_one hd h1 h2 hv1,.one _ _ hp,fun k b ht => ?_⟩
    cases ht with
    | one _ _ _ _ ht => exact .agg vs cs c k b v x hv1 hx ht
    | tup => cases hp with | data _ _ h => cases h
    | agg us ys j k b v' a' hv' ha' ht =>
      generalize hu : Value.agg us.toArray = u at hp
      cases hp with
      | data _ _ h => subst hu; exact absurd (.agg us ys j k b v' a' hv' ha' ht) (Tk.of_rep h)
   split at hn
   ·split at hn <;> simp at hn
   ·split at hn <;> simp at hn
   ·rename_i d h1 h2 hd; exact key d hd (fun fs e => h1 fs e) (fun n e e' => h2 n e e')
   ·cases hn
 | some m =>
   simp only [getCells] at hx
   split at hx
   ·rename_i hcm
    simp only [Option.some.injEq] at hx; subst hx
    have key : ∀ d i,P.underlying t = some d → P.info? t = some i → (∃ fs,d = .struct fs) ∨ (∃ n e,d = .array n e) → m = i.size →
     ∃ v,(part t vs.toArray c).run P w = .ok v w ∧ RV φ E r w v (.agg (((cs.drop c).take m).map normC)) ∧ ∀ k b,Tk v (.agg (((cs.drop c).take m).map normC)) k b → Tk (.agg vs.toArray) (.agg cs) k b := by
     intro d i hd hi hk hm
     have hg : (isAgg t).run P w = .ok true w := by
      simp only [isAgg,underlying,Sem.run_bind,run_program,Result.andThen_ok,hd]
      rcases hk with ⟨fs,rfl⟩ | ⟨n,e,rfl⟩ <;> rfl
     refine ⟨.agg ((vs.drop c).take m).toArray,?_,.agg _ _ ((hl.dropTake c m).map fun v x hh => hh.norm),fun k b ht => ?_⟩
     ·simp only [part,Sem.run_bind,hg,Result.andThen_ok,if_true,sizeOf,typeInfo,run_program,hi,Sem.run_pure]
      rw [← hm]
      congr 2
      apply Array.ext'
      simp [List.take_drop]
     ·generalize hu : Value.agg ((vs.drop c).take m).toArray = u at ht
      cases ht with
      | one _ _ _ _ ht => cases ht
      | agg us ys j k b v' a' hv' ha' ht =>
        simp at hu; subst hu
        simp only [List.getElem?_map,Option.map_eq_some_iff] at ha'
        obtain ⟨a0,ha0,rfl⟩ := ha'
        rw [List.getElem?_take] at hv' ha0
        split at hv'
        ·rename_i hj
         rw [if_pos hj] at ha0
         refine .agg vs cs (c + j) k b v' a0 (by simpa using hv') (by simpa using ha0) ?_
         cases a0 <;> first | exact ht | (simp only [normC] at ht; cases ht)
        ·cases hv'
    split at hn
    ·rename_i fs hd
     split at hn
     ·rename_i i hi; simp at hn; exact key _ i hd hi (.inl ⟨_,rfl⟩) hn
     ·cases hn
    ·rename_i len e hd
     split at hn
     ·rename_i i hi; simp at hn; exact key _ i hd hi (.inr ⟨_,_,rfl⟩) hn
     ·cases hn
    ·simp at hn
    ·cases hn
   ·cases hx
def chkFld (P : Program) (t : TypeId) (f off : Nat) (n : Option Nat) : Bool :=
 match P.underlying t with
 | some (.struct fs) => (match fs[f]? with | some fd => fd.offset == off && cellN P fd.type n | none => false)
 | _ => false
theorem val_fld {t : TypeId} {f off : Nat} {n : Option Nat} {x : Operand} {x' : Opd} (h : Sim φ w0 L E st a w) (hx : chkOpd φ x x' = true) (hc : chkFld P t f off n = true) {r : A}
 (hr : (match x'.v st with | .agg cs => getCells cs off n | _ => none) = some r) : Val P φ E st a w (Instr.field t (a.eval x) f) r := by
 have hco := opd_ok h hx
 split at hr
 ·rename_i cs e
  rw [e] at hco
  obtain ⟨vs,ev,hvs⟩ := hco.1.agg_inv
  rw [ev] at hco ⊢
  unfold chkFld at hc
  split at hc
  ·rename_i fs hfs
   split at hc
   ·rename_i fd hfd
    simp only [Bool.and_eq_true,beq_iff_eq] at hc
    obtain ⟨rfl,hc⟩ := hc
    obtain ⟨v,hrun,hv,ht⟩ := run_part_cells (P := P) (w := w) hc hvs hr
    refine ⟨v,?_,hv,fun k b hk => hco.2 k b (ht k b hk)⟩
    simp [Instr.field,underlying,hfs,hfd,asAgg,hrun]
   ·cases hc
  ·cases hc
 ·cases hr
def chkIa (P : Program) (t : TypeId) (z : Nat) : Bool :=
 match P.underlying t with
 | some (.slice e) => (match P.info? e with | some i => i.size == z | none => false)
 | _ => false
theorem run_indexAt_slice {t : TypeId} {z : Nat} (h : chkIa P t z = true) {k : IntKind} {n : Int} {len cap b o : Nat} (h0 : 0 ≤ n) (hn : n < (len : Int)) :
 (Instr.indexAt t (.slice (some ⟨b,o,none⟩) len cap) (.int k n)).run P w = .ok (.pointer (some ⟨b,o + n.toNat * z,none⟩)) w := by
 unfold chkIa at h
 split at h
 ·rename_i e he
  split at h
  ·rename_i i hi
   simp only [beq_iff_eq] at h
   simp [Instr.indexAt,asIntOf,underlying,he,h0,hn,sizeOf,typeInfo,hi,Addr.add_lit,h]
  ·cases h
 ·cases h
theorem flat_at {xs : List A} {z : Nat} (hz : ∀ x ∈ xs,x.cells.length = z) {i : Nat} {y : A} (hy : xs[i]? = some y) : y.cells = ((xs.flatMap A.cells).drop (i * z)).take y.cells.length := by
 rw [← flat_drop hz,List.drop_eq_getElem_cons (List.getElem?_eq_some_iff.1 hy).1,(List.getElem?_eq_some_iff.1 hy).2,List.flatMap_cons,List.take_left]
theorem Reps.elem {ok : Nat → Prop} {xs : List A} {z : Nat} (hz : ∀ x ∈ xs,x.cells.length = z) {vs : List Value} (h : Reps φ w ok vs (xs.flatMap A.cells)) {i : Nat} {y : A} (hy : xs[i]? = some y) :
 Reps φ w ok ((vs.drop (i * z)).take y.cells.length) y.cells := by
 have := (h.drop (i * z)).take y.cells.length
 rwa [← flat_at hz hy] at this
theorem val_ia {t : TypeId} {z : Nat} {x i : Operand} {x' i' : Opd} (h : Sim φ w0 L E st a w) (hx : chkOpd φ x x' = true) (hi : chkOpd φ i i' = true) (hc : chkIa P t z = true) {r : A}
 (hr : (match i'.v st,x'.v st with
  | .int _ n,.view q off len =>
    (st.r q).bind fun R => if 0 ≤ n ∧ n < (len : Int) ∧ R.z = z then some (A.loc q (off + n.toNat) 0) else none
  | .int _ n,.sl z' xs => if 0 ≤ n ∧ z' = z then (xs[n.toNat]?).map fun x => .ptr x.cells 0 else none
  | _,_ => none) = some r) : Val P φ E st a w (Instr.indexAt t (a.eval x) (a.eval i)) r := by
 have vx := (opd_ok h hx).1
 have vi := (opd_ok h hi).1
 generalize a.eval x = vv at vx ⊢
 split at hr
 ·rename_i k n q off len e1 e2
  rw [e1] at vi; rw [e2] at vx
  rw [vi.int_inv]
  obtain ⟨R,hR,hr⟩ := Option.bind_eq_some_iff.1 hr
  split at hr
  ·rename_i hcond
   obtain ⟨h0,hn,hz⟩ := hcond
   simp only [Option.some.injEq] at hr; subst hr
   cases vx.view_inv with
   | data _ _ h1 => cases h1
   | viewN _ _ _ _ h1 => rw [h1] at hR; cases hR
   | viewE ad q off R h1 hb hn' => omega
   | view b o cap q off n' R' h1 hb hn' hcap hc0 hρ hm =>
     rw [h1] at hR; cases hR
     exact ⟨_,run_indexAt_slice hc h0 hn,rv_loc h1 hρ (by rw [hz,Nat.add_mul,Nat.add_zero,Nat.add_assoc])⟩
  ·cases hr
 ·rename_i k n z' xs e1 e2
  rw [e1] at vi; rw [e2] at vx
  rw [vi.int_inv]
  split at hr
  ·rename_i hcond
   obtain ⟨h0,hz⟩ := hcond
   obtain ⟨y,hy,rfl⟩ := Option.map_eq_some_iff.1 hr
   have hlt : n.toNat < xs.length := (List.getElem?_eq_some_iff.1 hy).1
   cases vx.sl_inv with
   | slE ad cap z => simp at hy
   | sl b o cap z xs vs hb hzz hcap hrs hcs =>
     subst hz
     refine ⟨_,run_indexAt_slice hc h0 (by omega),rv_ptr hb (hrs.elem hzz hy) ((hcs.drop _).take _) (by simp)⟩
  ·cases hr
 ·cases hr
def chkIaa (P : Program) (t : TypeId) (len z : Nat) : Bool :=
 match P.underlying t with
 | some (.array n e) => n == len && (match P.info? e with | some i => i.size == z | none => false)
 | _ => false
theorem run_indexAt_array {t : TypeId} {len z : Nat} (h : chkIaa P t len z = true) {k : IntKind} {n : Int} {b o : Nat} (h0 : 0 ≤ n) (hn : n < (len : Int)) :
 (Instr.indexAt t (.pointer (some ⟨b,o,none⟩)) (.int k n)).run P w = .ok (.pointer (some ⟨b,o + n.toNat * z,none⟩)) w := by
 unfold chkIaa at h
 split at h
 ·rename_i m e he
  simp only [Bool.and_eq_true,beq_iff_eq] at h
  obtain ⟨rfl,h⟩ := h
  split at h
  ·rename_i i hi
   simp only [beq_iff_eq] at h
   simp [Instr.indexAt,asIntOf,underlying,he,h0,hn,Instr.sureAddr,sizeOf,typeInfo,hi,Addr.add_lit,h]
  ·cases h
 ·cases h
theorem val_iaa {t : TypeId} {len z : Nat} {x i : Operand} {x' i' : Opd} (h : Sim φ w0 L E st a w) (hx : chkOpd φ x x' = true) (hi : chkOpd φ i i' = true) (hc : chkIaa P t len z = true) {r : A}
 (hr : (match i'.v st,x'.v st with
  | .int _ n,.loc q j c => if 0 ≤ n ∧ n < (len : Int) then (st.r q).map fun _ => A.loc q j (c + n.toNat * z) else none
  | .int _ n,.ptr cs c => if 0 ≤ n ∧ n < (len : Int) then some (.ptr cs (c + n.toNat * z)) else none
  | _,_ => none) = some r) : Val P φ E st a w (Instr.indexAt t (a.eval x) (a.eval i)) r := by
 have vx := (opd_ok h hx).1
 have vi := (opd_ok h hi).1
 split at hr
 ·rename_i k n q j c e1 e2
  rw [e1] at vi; rw [e2] at vx
  rw [vi.int_inv]
  split at hr
  ·rename_i hcond
   obtain ⟨R,hR,rfl⟩ := Option.map_eq_some_iff.1 hr
   obtain ⟨b,o,hρ,ev⟩ := vx.loc_inv.loc_at hR
   rw [ev]
   exact ⟨_,run_indexAt_array hc hcond.1 hcond.2,rv_loc hR hρ (by simp [Nat.add_assoc])⟩
  ·cases hr
 ·rename_i k n cs c e1 e2
  rw [e1] at vi; rw [e2] at vx
  rw [vi.int_inv]
  split at hr
  ·rename_i hcond
   simp only [Option.some.injEq] at hr; subst hr
   obtain ⟨b,o,vs,ev,hb,hrs,hcs⟩ := vx.ptr_inv.ptr_at
   rw [ev]
   exact ⟨_,run_indexAt_array hc hcond.1 hcond.2,rv_ptr hb hrs hcs (by simp [Nat.add_assoc])⟩
  ·cases hr
 ·cases hr
theorem val_ix {t : TypeId} {x i : Operand} {x' i' : Opd} (h : Sim φ w0 L E st a w) (hx : chkOpd φ x x' = true) (hi : chkOpd φ i i' = true) (ht : P.underlying t = some .string) {r : A}
 (hr : (match i'.v st,x'.v st with
  | .int _ n,.str s => if 0 ≤ n then (s[n.toNat]?).map fun b => A.int .u8 b.toNat else none
  | _,_ => none) = some r) : Val P φ E st a w (Instr.index t (a.eval x) (a.eval i)) r := by
 have vx := (opd_ok h hx).1
 have vi := (opd_ok h hi).1
 split at hr
 ·rename_i k n s e1 e2
  rw [e1] at vi; rw [e2] at vx
  rw [vi.int_inv,vx.str_inv]
  split at hr
  ·rename_i h0
   obtain ⟨y,hy,rfl⟩ := Option.map_eq_some_iff.1 hr
   refine val_scalar (v := .int .u8 y.toNat) ?_ (.int _ _)
   have : (ByteArray.mk s.toArray)[n.toNat]? = some y := by
    obtain ⟨hlt,hy'⟩ := List.getElem?_eq_some_iff.1 hy
    have hsz : n.toNat < (ByteArray.mk s.toArray).size := by simpa [ByteArray.size] using hlt
    rw [getElem?_pos (ByteArray.mk s.toArray) n.toNat hsz]
    exact congrArg some hy'
   simp [Instr.index,asIntOf,underlying,ht,h0,this]
  ·cases hr
 ·cases hr
theorem val_ixa {t : TypeId} {len z : Nat} {n : Option Nat} {x i : Operand} {x' i' : Opd} (h : Sim φ w0 L E st a w) (hx : chkOpd φ x x' = true) (hi : chkOpd φ i i' = true) {e : TypeId}
 (ht : P.underlying t = some (.array len e)) {ti : TypeInfo} (hti : P.info? e = some ti) (hz : ti.size = z) (hn : cellN P e n = true) {r : A}
 (hr : (match i'.v st,x'.v st with
  | .int _ j,.agg cs => if 0 ≤ j ∧ j < (len : Int) then getCells cs (j.toNat * z) n else none
  | _,_ => none) = some r) : Val P φ E st a w (Instr.index t (a.eval x) (a.eval i)) r := by
 have hco := opd_ok h hx
 have vi := (opd_ok h hi).1
 split at hr
 ·rename_i k j cs e1 e2
  rw [e1] at vi; rw [e2] at hco
  rw [vi.int_inv]
  obtain ⟨vs,ev,hvs⟩ := hco.1.agg_inv
  rw [ev] at hco ⊢
  split at hr
  ·rename_i h0
   obtain ⟨v,hrun,hv,htk⟩ := run_part_cells (P := P) (w := w) hn hvs hr
   refine ⟨v,?_,hv,fun k b hk => hco.2 k b (htk k b hk)⟩
   simp [Instr.index,asIntOf,underlying,ht,h0.1,h0.2,sizeOf,typeInfo,hti,hz,hrun]
  ·cases hr
 ·cases hr
end
end Go.Ab
namespace Go.Ab
section
variable {P : Program} {φ : Nat → Nat} {w0 : World} {L : Lent} {E : Env} {st : St} {a : Act} {w : World}
theorem run_sliceAt_gen {t e : TypeId} {i : TypeInfo} (ht : P.underlying t = some (.slice e)) (hi : P.info? e = some i) {ad : Option Addr} {len cap l h : Nat} {lo hi : Option Value}
 (hlo : (lo = none ∧ l = 0) ∨ ∃ k,lo = some (.int k l)) (hhi : (hi = none ∧ h = len) ∨ ∃ k,hi = some (.int k h)) (h1 : l ≤ h) (h2 : h ≤ cap) :
 (Instr.sliceAt t (.slice ad len cap) lo hi none).run P w = .ok (.slice (if cap = l then ad else ad.map (·.add (l * i.size))) (h - l) (cap - l)) w := by
 have c1 : (0 : Int) ≤ (l : Int) ∧ (l : Int) ≤ (h : Int) := by omega
 have c2 : (0 : Int) ≤ (h : Int) ∧ (h : Int) ≤ (cap : Int) := by omega
 rcases hlo with ⟨rfl,rfl⟩ | ⟨k,rfl⟩ <;> rcases hhi with ⟨rfl,rfl⟩ | ⟨k',rfl⟩ <;>
  simp [Instr.sliceAt,Instr.slice,underlying,ht,Instr.sliceBounds,Instr.sliceBound,asIntOf,sizeOf,typeInfo,hi,c1,c2,h1,h2]
theorem run_sliceAt_str {t : TypeId} (ht : P.underlying t = some .string) {s : List UInt8} {l h : Nat} {lo hi : Option Value}
 (hlo : (lo = none ∧ l = 0) ∨ ∃ k,lo = some (.int k l)) (hhi : (hi = none ∧ h = s.length) ∨ ∃ k,hi = some (.int k h)) (h1 : l ≤ h) (h2 : h ≤ s.length) :
 (Instr.sliceAt t (.string ⟨s.toArray⟩) lo hi none).run P w = .ok (.string ⟨((s.take h).drop l).toArray⟩) w := by
 have hsz : (ByteArray.mk s.toArray).size = s.length := by show s.toArray.size = _; simp
 have c1 : (0 : Int) ≤ (l : Int) ∧ (l : Int) ≤ (h : Int) := by omega
 have c2 : (0 : Int) ≤ (h : Int) ∧ (h : Int) ≤ (s.length : Int) := by omega
 have hex : (ByteArray.mk s.toArray).extract l h = ⟨((s.take h).drop l).toArray⟩ := by
  apply ByteArray.ext
  simp [List.extract_eq_take_drop,List.drop_take]
 rcases hlo with ⟨rfl,rfl⟩ | ⟨k,rfl⟩ <;> rcases hhi with ⟨rfl,rfl⟩ | ⟨k',rfl⟩ <;>
  simp [Instr.sliceAt,Instr.slice,underlying,ht,Instr.sliceBounds,Instr.sliceBound,asIntOf,hsz,c1,c2,h1,h2,hex] <;> simpa using hex
def chkOpt (φ : Nat → Nat) : Option Operand → Option Opd → Bool
 | none,none => true
 | some x,some y => chkOpd φ x y
 | _,_ => false
theorem opt_lo (h : Sim φ w0 L E st a w) {lo : Option Operand} {lo' : Option Opd} (hx : chkOpt φ lo lo' = true) {k : IntKind} {l : Int} (hl : (lo'.map (Opd.v st)).getD (.int .i64 0) = .int k l) (h0 : 0 ≤ l) :
 (lo.map a.eval = none ∧ l.toNat = 0) ∨ ∃ k,lo.map a.eval = some (.int k (l.toNat : Nat)) := by
 unfold chkOpt at hx
 split at hx
 ·simp at hl; exact .inl ⟨rfl,by omega⟩
 ·rename_i x y
  simp at hl
  have := (opd_ok h hx).1
  rw [hl] at this
  exact .inr ⟨k,by simp [this.int_inv]; omega⟩
 ·cases hx
theorem opt_hi (h : Sim φ w0 L E st a w) {hi : Option Operand} {hi' : Option Opd} (hx : chkOpt φ hi hi' = true) :
 (hi'.map (Opd.v st) = none → hi.map a.eval = none) ∧ ∀ k m,hi'.map (Opd.v st) = some (.int k m) → hi.map a.eval = some (.int k m) := by
 unfold chkOpt at hx
 split at hx
 ·exact ⟨fun _ => rfl,fun k m hm => by simp at hm⟩
 ·rename_i x y
  refine ⟨fun hm => by simp at hm,fun k m hm => ?_⟩
  simp at hm
  have := (opd_ok h hx).1
  rw [hm] at this
  simp [this.int_inv]
 ·cases hx
theorem val_slcs {t : TypeId} {x : Operand} {x' : Opd} {lo hi : Option Operand} {lo' hi' : Option Opd} (h : Sim φ w0 L E st a w) (hx : chkOpd φ x x' = true) (hl : chkOpt φ lo lo' = true) (hh : chkOpt φ hi hi' = true)
 (ht : P.underlying t = some .string) {r : A}
 (hr : (match (lo'.map (Opd.v st)).getD (.int .i64 0),hi'.map (Opd.v st),x'.v st with
  | .int _ l,some (.int _ h),.str s => if 0 ≤ l ∧ l ≤ h ∧ h ≤ (s.length : Int) then some (A.str ((s.take h.toNat).drop l.toNat)) else none
  | .int _ l,none,.str s => if 0 ≤ l ∧ l ≤ (s.length : Int) then some (.str (s.drop l.toNat)) else none
  | _,_,_ => none) = some r) : Val P φ E st a w (Instr.sliceAt t (a.eval x) (lo.map a.eval) (hi.map a.eval) none) r := by
 have vx := (opd_ok h hx).1
 have vh := opt_hi h hh
 split at hr
 ·rename_i k l k' m s e1 e2 e3
  split at hr
  ·rename_i hc
   simp only [Option.some.injEq] at hr; subst hr
   rw [e3] at vx
   rw [vx.str_inv]
   refine val_scalar (run_sliceAt_str ht (opt_lo h hl e1 hc.1) (.inr ⟨k',?_⟩) (by omega) (by omega)) (.str _)
   rw [vh.2 _ _ e2]; simp; omega
  ·cases hr
 ·rename_i k l s e1 e2 e3
  split at hr
  ·rename_i hc
   simp only [Option.some.injEq] at hr; subst hr
   rw [e3] at vx
   rw [vx.str_inv]
   have := run_sliceAt_str (P := P) (w := w) (s := s) ht (opt_lo h hl e1 hc.1) (.inl ⟨vh.1 e2,rfl⟩) (by omega) (Nat.le_refl _)
   rw [List.take_length] at this
   exact val_scalar this (.str _)
  ·cases hr
 ·cases hr
theorem rep_drop_take {ok : Nat → Prop} {b o cap z l h : Nat} {xs : List A} {vs : List Value} (hb : ok b) (hz : ∀ x ∈ xs,x.cells.length = z) (hc : xs.length ≤ cap)
 (hr : Reps φ w ok vs (xs.flatMap A.cells)) (hv : Cells w b o vs) (h1 : l ≤ h) (h2 : h ≤ xs.length) :
 Rep φ w ok (.slice (if cap = l then some ⟨b,o,none⟩ else (some (⟨b,o,none⟩ : Addr)).map (·.add (l * z))) (h - l) (cap - l)) (.sl z ((xs.take h).drop l)) := by
 have hlen : ((xs.take h).drop l).length = h - l := by simp; omega
 by_cases he : h - l = 0
 ·have : (xs.take h).drop l = [] := List.eq_nil_of_length_eq_zero (by omega)
  rw [this,he]
  exact .slE _ _ _
 ·have hne : ¬ cap = l := by omega
  rw [if_neg hne,Option.map_some,Addr.add_lit,← hlen]
  have hz1 : ∀ x ∈ xs.take h,x.cells.length = z := fun x hx => hz x (List.mem_of_mem_take hx)
  refine .sl b (o + l * z) (cap - l) z _ ((vs.take (h * z)).drop (l * z)) hb (fun x hx => hz1 x (List.mem_of_mem_drop hx)) (by omega) ?_ ((hv.take _).drop _)
  rw [flat_drop hz1,flat_take hz]
  exact (hr.take _).drop _
theorem val_slc {t e : TypeId} {i : TypeInfo} {x : Operand} {x' : Opd} {lo hi : Option Operand} {lo' hi' : Option Opd} (h : Sim φ w0 L E st a w) (hx : chkOpd φ x x' = true) (hl : chkOpt φ lo lo' = true) (hh : chkOpt φ hi hi' = true)
 (ht : P.underlying t = some (.slice e)) (hi0 : P.info? e = some i) {z : Nat} (hz0 : i.size = z) {r : A}
 (hr : (match (lo'.map (Opd.v st)).getD (.int .i64 0),hi'.map (Opd.v st),x'.v st with
  | .int _ l,some (.int _ h),.sl z' xs => if 0 ≤ l ∧ l ≤ h ∧ h ≤ (xs.length : Int) ∧ z' = z then some (A.sl z' ((xs.take h.toNat).drop l.toNat)) else none
  | .int _ l,none,.sl z' xs => if 0 ≤ l ∧ l ≤ (xs.length : Int) ∧ z' = z then some (.sl z' (xs.drop l.toNat)) else none
  | .int _ l,some (.int _ h),.view q off n => (st.r q).bind fun R => if 0 ≤ l ∧ l ≤ h ∧ h ≤ (n : Int) ∧ R.z = z then some (.view q (off + l.toNat) (h.toNat - l.toNat)) else none
  | .int _ l,none,.view q off n => (st.r q).bind fun R => if 0 ≤ l ∧ l ≤ (n : Int) ∧ R.z = z then some (.view q (off + l.toNat) (n - l.toNat)) else none
  | _,_,_ => none) = some r) : Val P φ E st a w (Instr.sliceAt t (a.eval x) (lo.map a.eval) (hi.map a.eval) none) r := by
 have vx := (opd_ok h hx).1
 have vh := opt_hi h hh
 have kv : ∀ (v : Value) (q off n l m : Nat) (R : Root),RV1 φ E st.r w v (.view q off n) → st.r q = some R → R.z = z → l ≤ m → m ≤ n →
  ((lo.map a.eval = none ∧ l = 0) ∨ ∃ k,lo.map a.eval = some (.int k (l : Nat))) → ((hi.map a.eval = none ∧ m = n) ∨ ∃ k,hi.map a.eval = some (.int k (m : Nat))) →
  Val P φ E st a w (Instr.sliceAt t v (lo.map a.eval) (hi.map a.eval) none) (.view q (off + l) (m - l)) := by
  intro v q off n l m R hv hR hz h1 h2 hlo hhi
  cases hv with
  | data _ _ h => cases h
  | viewN _ _ _ _ h1 => rw [h1] at hR; cases hR
  | viewE ad q off R' hq1 hb hn =>
    obtain rfl : m = 0 := by omega
    obtain rfl : l = 0 := by omega
    refine ⟨_,run_sliceAt_gen ht hi0 hlo hhi (Nat.le_refl _) (Nat.le_refl _),?_,.scalar noTk_view⟩
    exact .one _ _ (.viewE _ _ _ R' hq1 hb (by simpa using hn))
  | view b o cap q off n R' h1' hb hn hc h0 hρ hm =>
    rw [h1'] at hR; cases hR
    refine ⟨_,run_sliceAt_gen ht hi0 hlo hhi h1 (by omega),?_,.scalar noTk_view⟩
    by_cases he : cap = l
    ·obtain rfl : l = cap := he.symm
     obtain rfl : m = l := by omega
     simp only [Nat.sub_self]
     exact .one _ _ (.viewE _ _ _ R h1' hb (by omega))
    ·rw [if_neg he,Option.map_some,Addr.add_lit,hz0,← hz,show o + off * R.z + l * R.z = o + (off + l) * R.z from by rw [Nat.add_mul]; omega]
     refine .one _ _ (.view b o (cap - l) q (off + l) (m - l) R h1' hb (by omega) (by omega) (by omega) hρ ?_)
     rw [show off + l + (cap - l) = off + cap from by omega]
     exact hm
 have ks : ∀ (v : Value) (z' l m : Nat) (xs : List A),Rep φ w E.ok v (.sl z' xs) → z' = z → l ≤ m → m ≤ xs.length →
  ((lo.map a.eval = none ∧ l = 0) ∨ ∃ k,lo.map a.eval = some (.int k (l : Nat))) → ((hi.map a.eval = none ∧ m = xs.length) ∨ ∃ k,hi.map a.eval = some (.int k (m : Nat))) →
  Val P φ E st a w (Instr.sliceAt t v (lo.map a.eval) (hi.map a.eval) none) (.sl z' ((xs.take m).drop l)) := by
  intro v z' l m xs hv hz h1 h2 hlo hhi
  cases hv with
  | slE ad cap z =>
    obtain rfl : m = 0 := by simpa using h2
    obtain rfl : l = 0 := by omega
    exact val_scalar (run_sliceAt_gen ht hi0 hlo hhi (Nat.le_refl _) (by omega)) (by simpa using .slE _ _ _)
  | sl b o cap z xs vs hb hzz hc hrs hcs =>
    subst hz
    refine val_scalar (run_sliceAt_gen ht hi0 hlo hhi h1 (by omega)) ?_
    rw [hz0]
    exact rep_drop_take hb hzz hc hrs hcs h1 h2
 split at hr
 ·rename_i k l k' m z' xs e1 e2 e3
  split at hr
  ·rename_i hc
   simp only [Option.some.injEq] at hr; subst hr
   rw [e3] at vx
   refine ks _ z' l.toNat m.toNat xs vx.sl_inv hc.2.2.2 (by omega) (by omega) (opt_lo h hl e1 hc.1) (.inr ⟨k',?_⟩)
   rw [vh.2 _ _ e2]; simp; omega
  ·cases hr
 ·rename_i k l z' xs e1 e2 e3
  split at hr
  ·rename_i hc
   simp only [Option.some.injEq] at hr; subst hr
   rw [e3] at vx
   have := ks _ z' l.toNat xs.length xs vx.sl_inv hc.2.2 (by omega) (Nat.le_refl _) (opt_lo h hl e1 hc.1) (.inl ⟨vh.1 e2,rfl⟩)
   rwa [List.take_length] at this
  ·cases hr
 ·rename_i k l k' m q off n e1 e2 e3
  obtain ⟨R,hR,hr⟩ := Option.bind_eq_some_iff.1 hr
  split at hr
  ·rename_i hc
   simp only [Option.some.injEq] at hr; subst hr
   rw [e3] at vx
   refine kv _ q off n l.toNat m.toNat R vx.view_inv hR hc.2.2.2 (by omega) (by omega) (opt_lo h hl e1 hc.1) (.inr ⟨k',?_⟩)
   rw [vh.2 _ _ e2]; simp; omega
  ·cases hr
 ·rename_i k l q off n e1 e2 e3
  obtain ⟨R,hR,hr⟩ := Option.bind_eq_some_iff.1 hr
  split at hr
  ·rename_i hc
   simp only [Option.some.injEq] at hr; subst hr
   rw [e3] at vx
   exact kv _ q off n l.toNat n R vx.view_inv hR hc.2.2 (by omega) (Nat.le_refl _) (opt_lo h hl e1 hc.1) (.inl ⟨vh.1 e2,rfl⟩)
  ·cases hr
 ·cases hr
def chkOpds (φ : Nat → Nat) : List Operand → List Opd → Bool
 | [],[] => true
 | x :: xs,y :: ys => chkOpd φ x y && chkOpds φ xs ys
 | _,_ => false
theorem run_fold2 {f : A → A → Option A} {g : Value → Value → Sem Value} (hfg : ∀ (v u : Value) (x y z : A),RV φ E st.r w v x → RV φ E st.r w u y → f x y = some z → ∃ v',(g v u).run P w = .ok v' w ∧ Rep φ w E.ok v' z)
 (h : Sim φ w0 L E st a w) : ∀ (xs : List Operand) (ys : List Opd) (v : Value) (x : A) (r : A),chkOpds φ xs ys = true → RV φ E st.r w v x → ys ≠ [] → foldA f x (ys.map (Opd.v st)) = some r →
   ∃ v',((xs.map a.eval).foldlM g v : Sem Value).run P w = .ok v' w ∧ Rep φ w E.ok v' r := by
 intro xs
 induction xs with
 | nil => intro ys v x r hc _ hne _; cases ys with
   | nil => exact absurd rfl hne
   | cons y ys => simp [chkOpds] at hc
 | cons o xs ih =>
   intro ys v x r hc hv _ hf
   cases ys with
   | nil => simp [chkOpds] at hc
   | cons y ys =>
     simp only [chkOpds,Bool.and_eq_true] at hc
     simp only [List.map_cons,foldA] at hf
     obtain ⟨c,hc1,hf⟩ := Option.bind_eq_some_iff.1 hf
     obtain ⟨v1,hr1,hp1⟩ := hfg v _ x _ c hv (opd_ok h hc.1).1 hc1
     simp only [List.map_cons,List.foldlM_cons,Sem.run_bind,hr1,Result.andThen_ok]
     cases ys with
     | nil =>
       cases xs with
       | nil => simp [foldA] at hf; subst hf; exact ⟨v1,rfl,hp1⟩
       | cons o2 xs => simp [chkOpds] at hc
     | cons y2 ys => exact ih _ v1 c r hc.2 (.one _ _ (.data _ _ hp1)) (by simp) hf
theorem max2_ok (v u : Value) (x y z : A) (hv : RV φ E st.r w v x) (hu : RV φ E st.r w u y) (h : max2A x y = some z) : ∃ v',(Builtin.max2 v u).run P w = .ok v' w ∧ Rep φ w E.ok v' z := by
 unfold max2A at h
 split at h
 ·rw [hv.int_inv,hu.int_inv]
  split at h
  ·simp only [Option.some.injEq] at h; subst h
   exact ⟨_,rfl,.int _ _⟩
  ·cases h
 ·cases h
theorem min2_ok (v u : Value) (x y z : A) (hv : RV φ E st.r w v x) (hu : RV φ E st.r w u y) (h : min2A x y = some z) : ∃ v',(Builtin.min2 v u).run P w = .ok v' w ∧ Rep φ w E.ok v' z := by
 unfold min2A at h
 split at h
 ·rw [hv.int_inv,hu.int_inv]
  split at h
  ·simp only [Option.some.injEq] at h; subst h
   exact ⟨_,rfl,.int _ _⟩
  ·cases h
 ·cases h
theorem val_fold {f : A → A → Option A} {g : Value → Value → Sem Value} (hfg : ∀ (v u : Value) (x y z : A),RV φ E st.r w v x → RV φ E st.r w u y → f x y = some z → ∃ v',(g v u).run P w = .ok v' w ∧ Rep φ w E.ok v' z)
 (h : Sim φ w0 L E st a w) {o : Operand} {os : List Operand} {y : Opd} {ys : List Opd} (h1 : chkOpd φ o y = true) (h2 : chkOpds φ os ys = true) (hne : ys ≠ []) {r : A}
 (hr : foldA f (y.v st) (ys.map (Opd.v st)) = some r) : Val P φ E st a w ((os.map a.eval).foldlM g (a.eval o)) r := by
 obtain ⟨v,hrun,hrep⟩ := run_fold2 hfg h os ys _ _ r h2 (opd_ok h h1).1 hne hr
 exact val_scalar hrun hrep
theorem val_ext {x : Operand} {x' : Opd} {i : Nat} (h : Sim φ w0 L E st a w) (hx : chkOpd φ x x' = true) {r : A} (hr : (match x'.v st with | .tup xs => xs[i]? | _ => none) = some r) :
 Val P φ E st a w (Instr.extract (a.eval x) i) r := by
 have hco := opd_ok h hx
 split at hr
 ·rename_i xs e
  rw [e] at hco
  obtain ⟨vs,ev,hvs⟩ := hco.1.tup_inv
  rw [ev] at hco ⊢
  obtain ⟨v,hv,hp⟩ := hvs.get hr
  refine ⟨v,by simp [Instr.extract,hv],.one _ _ hp,fun k b ht => ?_⟩
  cases ht with
  | one _ _ _ _ ht => exact hco.2 k b (.tup vs xs i k b v r hv hr ht)
  | tup => cases hp with | data _ _ h => cases h
  | agg us ys j k b v' a' hv' ha' ht =>
    generalize hu : Value.agg us.toArray = u at hp
    cases hp with
    | data _ _ h => subst hu; exact absurd (.agg us ys j k b v' a' hv' ha' ht) (Tk.of_rep h)
 ·cases hr
end
end Go.Ab
namespace Go.Ab
section
variable {P : Program} {φ : Nat → Nat} {w0 : World} {L : Lent} {E : Env} {st : St} {a : Act} {w : World}
def Val2 (P : Program) (φ : Nat → Nat) (w0 : World) (L : Lent) (E : Env) (st : St) (a : Act) (w : World) (S : Sem Value) (x : A) : Prop :=
 ∃ v w' E',S.run P w = .ok v w' ∧ Ext w w' ∧ E.Le E' w w' ∧ RV φ E' st.r w' v x ∧ TokOk w0 L E' st a w' v x
theorem Val.two (h : Sim φ w0 L E st a w) {S : Sem Value} {x : A} : Val P φ E st a w S x → Val2 P φ w0 L E st a w S x
 | ⟨v,h1,h2,h3⟩ => ⟨v,w,E,h1,.refl w,.refl E w w,h2,h3.tok h⟩
theorem val_conv_int {s d : TypeId} {k : IntKind} {ds : TypeDesc} {x : Operand} {x' : Opd} (h : Sim φ w0 L E st a w) (hx : chkOpd φ x x' = true) (hs : P.underlying s = some ds) (hd : P.underlying d = some (.int k)) {r : A}
 (hr : (match x'.v st with | .int _ n => some (A.int k (k.wrap n)) | _ => none) = some r) : Val P φ E st a w (convert s d (a.eval x)) r := by
 have vx := (opd_ok h hx).1
 split at hr
 ·rename_i j n e
  simp only [Option.some.injEq] at hr; subst hr
  rw [e] at vx; rw [vx.int_inv]
  exact val_scalar (by simp [convert,run_underlying hs,run_underlying hd]; rfl) (.int _ _)
 ·cases hr
theorem val_conv_same {s d : TypeId} {x : Operand} {x' : Opd} (h : Sim φ w0 L E st a w) (hx : chkOpd φ x x' = true) (hs : P.underlying s = some .string) (hd : P.underlying d = some .string) {r : A}
 (hr : (match x'.v st with | .str n => some (A.str n) | _ => none) = some r) : Val P φ E st a w (convert s d (a.eval x)) r := by
 have vx := (opd_ok h hx).1
 split at hr
 ·rename_i n e
  simp only [Option.some.injEq] at hr; subst hr
  rw [e] at vx; rw [vx.str_inv]
  exact val_scalar (by simp [convert,run_underlying hs,run_underlying hd]) (.str _)
 ·cases hr
theorem elems_ok {v : Value} {x : A} {z : Nat} {xs : List A} (hr : ∀ q R,st.r q = some R → RootOk φ E st.r w q R) (hv : RV φ E st.r w v x) (hx : elems st.r x = some (z,xs)) :
 ∃ ad cap,v = .slice ad xs.length cap ∧ xs.length ≤ cap ∧ (xs = [] ∨ ∃ b o vs,ad = some ⟨b,o,none⟩ ∧ Reps φ w E.ok vs (xs.flatMap A.cells) ∧ Cells w b o vs ∧ (∀ y ∈ xs,y.cells.length = z)) := by
 unfold elems at hx
 split at hx <;> (try (cases hx; done))
 ·simp only [Option.some.injEq,Prod.mk.injEq] at hx; obtain ⟨rfl,rfl⟩ := hx
  cases hv.sl_inv with
  | slE ad cap z => exact ⟨ad,cap,rfl,Nat.zero_le _,.inl rfl⟩
  | sl b o cap z xs vs hb hz hc h hcc => exact ⟨_,cap,rfl,hc,.inr ⟨b,o,vs,rfl,h,hcc,hz⟩⟩
 ·simp only [Option.some.injEq,Prod.mk.injEq] at hx; obtain ⟨rfl,rfl⟩ := hx
  cases hv.tok_inv with
  | data _ _ h => cases h
  | tokE ad k z => exact ⟨ad,0,rfl,Nat.zero_le _,.inl rfl⟩
  | tok b o cap k z xs vs hc h0 hz h hcc hm => exact ⟨_,cap,rfl,hc,.inr ⟨b,o,vs,rfl,h,hcc,hz⟩⟩
 ·simp only [Option.some.injEq,Prod.mk.injEq] at hx; obtain ⟨rfl,rfl⟩ := hx
  exact ⟨none,0,hv.nils_inv,Nat.zero_le _,.inl rfl⟩
 ·rename_i q off n
  obtain ⟨R,hR,hx⟩ := Option.map_eq_some_iff.1 hx
  simp only [Prod.mk.injEq] at hx; obtain ⟨rfl,rfl⟩ := hx
  cases hv.view_inv with
  | data _ _ h => cases h
  | viewN _ _ _ _ h1 => rw [h1] at hR; cases hR
  | viewE ad q off R' h1 hb hn =>
    exact ⟨ad,0,by simp,by simp,.inl (by simp)⟩
  | view b o cap q off n R' h1 hb hn hc h0 hρ hm =>
    rw [h1] at hR; cases hR
    have hlen : ((R.xs.drop off).take n).length = n := by simp; omega
    refine ⟨_,cap,by rw [hlen],by omega,?_⟩
    have hro := hr q R h1
    cases hro with
    | empty z h => exact .inl (by simp)
    | sl b' o' z xs vs hρ' hz h hv' hr' =>
      rw [hρ] at hρ'; cases hρ'
      refine .inr ⟨b,_,(vs.drop (off * z)).take (n * z),rfl,?_,(hv'.drop _).take _,fun y hy => hz y (List.mem_of_mem_drop (List.mem_of_mem_take hy))⟩
      rw [flat_take (fun x hx => hz x (List.mem_of_mem_drop hx)),flat_drop hz]
      exact (h.drop _).take _
    | box => cases hb
theorem bytesOf_cons {x : A} {xs : List A} {l : List UInt8} (h : bytesOf (x :: xs) = some l) : ∃ n l',x = .int .u8 n ∧ bytesOf xs = some l' ∧ l = UInt8.ofNat n.toNat :: l' := by
 unfold bytesOf at h
 split at h
 ·rename_i e; cases e
 ·rename_i n l0 e
  cases e
  obtain ⟨l',hl',rfl⟩ := Option.map_eq_some_iff.1 h
  exact ⟨n,l',rfl,hl',rfl⟩
 ·cases h
theorem bytes_ints : ∀ {xs : List A} {l : List UInt8} {vs : List Value},bytesOf xs = some l → Reps φ w E.ok vs xs →
 ∃ ns : List Int,vs = ns.map (Value.int .u8) ∧ l = ns.map (fun n => UInt8.ofNat n.toNat)
 | [],l,vs,hl,h => by cases h; simp [bytesOf] at hl; subst hl; exact ⟨[],rfl,rfl⟩
 | x :: xs,l,vs,hl,h => by
   obtain ⟨n,l',rfl,hl',rfl⟩ := bytesOf_cons hl
   cases h with
   | cons v _ vs _ hv ht =>
     obtain ⟨ns,rfl,rfl⟩ := bytes_ints hl' ht
     cases hv
     exact ⟨n :: ns,rfl,rfl⟩
theorem bytes_flat : ∀ {xs : List A} {l : List UInt8},bytesOf xs = some l → xs.flatMap A.cells = xs
 | [],l,hl => rfl
 | x :: xs,l,hl => by
   obtain ⟨n,l',rfl,hl',rfl⟩ := bytesOf_cons hl
   rw [List.flatMap_cons,bytes_flat hl']; rfl
theorem foldl_push (ns : List Int) : ∀ acc : ByteArray,ns.foldl (fun r n => r.push (UInt8.ofNat n.toNat)) acc = ⟨(acc.data.toList ++ ns.map fun n => UInt8.ofNat n.toNat).toArray⟩ := by
 induction ns with
 | nil => intro acc; apply ByteArray.ext; simp
 | cons n ns ih => intro acc; rw [List.foldl_cons,ih]; apply ByteArray.ext; simp
theorem val_conv_bytes {s d e : TypeId} {x : Operand} {x' : Opd} (h : Sim φ w0 L E st a w) (hx : chkOpd φ x x' = true) (hs : P.underlying s = some (.slice e)) (he : P.underlying e = some (.int .u8))
 (hd : P.underlying d = some .string) {r : A}
 (hr : ((elems st.r (x'.v st)).bind fun (z,xs) => if z = 1 then (bytesOf xs).map A.str else none) = some r) : Val P φ E st a w (convert s d (a.eval x)) r := by
 have vx := (opd_ok h hx).1
 obtain ⟨⟨z,xs⟩,hel,hr⟩ := Option.bind_eq_some_iff.1 hr
 simp only at hr
 split at hr
 ·rename_i hz
  obtain ⟨l,hl,rfl⟩ := Option.map_eq_some_iff.1 hr
  obtain ⟨ad,cap,ev,hc,hcase⟩ := elems_ok h.roots vx hel
  rw [ev]
  refine val_scalar (v := .string ⟨l.toArray⟩) ?_ (.str _)
  rw [run_convert_bytes_string w s d e ad _ cap hs he hd]
  rcases hcase with rfl | ⟨b,o,vs,rfl,hrs,hcs,hzz⟩
  ·simp [bytesOf] at hl; subst hl
   cases ad with
   | none => rfl
   | some ad => simp [Conv.bytesToString,loadCells,loadCellsFrom]; rfl
  ·rw [bytes_flat hl] at hrs
   obtain ⟨ns,rfl,rfl⟩ := bytes_ints hl hrs
   have hlen := hrs.length
   have hlc := run_loadCells_list (P := P) (w := w) ⟨b,o,none⟩ _ (fun j v hj => by rw [World.cell?_add]; exact hcs j v hj)
   rw [run_bytesToString w ⟨b,o,none⟩ xs.length cap ns (by rw [← hlen]; exact hlc),foldl_push]
   simp
 ·cases hr
end
end Go.Ab
namespace Go.Ab
section
variable {P : Program} {φ : Nat → Nat} {w0 : World} {L : Lent} {E : Env} {st : St} {a : Act} {w w' : World}
theorem ext_push {C : Array Value} {e : TypeId} (hh : w'.heap = w.heap.push (.cells C e)) (he : w'.os = w.os ∧ w'.output = w.output) : Ext w w' :=
 ⟨by rw [hh]; simp,fun b hb => by rw [hh,Array.getElem?_push,if_neg (by omega)],he⟩
theorem room_push {C : Array Value} {e : TypeId} (hh : w'.heap = w.heap.push (.cells C e)) : Room w' w.heap.size C.size :=
 ⟨C,e,(0,0),by rw [hh]; simp,Nat.le_refl _,fun off _ => by simp [World.frozen?,hh]⟩
theorem cells_push {C : Array Value} {e : TypeId} (hh : w'.heap = w.heap.push (.cells C e)) : Cells w' w.heap.size 0 C.toList := fun j v hj => by
 simp only [World.cell?,hh,Array.getElem?_push_size]
 simpa using hj
theorem new_tok (h : Sim φ w0 L E st a w) {C : Array Value} {e : TypeId} (hh : w'.heap = w.heap.push (.cells C e)) (hev : w'.os = w.os ∧ w'.output = w.output) {k z cap : Nat} {xs : List A} {vs : List Value} (hz : ∀ x ∈ xs,x.cells.length = z)
 (hr : Reps φ w E.ok vs (xs.flatMap A.cells)) (hv : Cells w' w.heap.size 0 vs) (hc : xs.length ≤ cap) (hs : cap * z ≤ C.size) :
 RV φ E st.r w' (.slice (some ⟨w.heap.size,0,none⟩) xs.length cap) (.tok k z xs) ∧ TokOk w0 L E st a w' (.slice (some ⟨w.heap.size,0,none⟩) xs.length cap) (.tok k z xs) := by
 have he := ext_push hh hev
 have hnok : ¬ E.ok w.heap.size := fun hk => Nat.lt_irrefl _ (h.okz _ hk)
 have hr' : Reps φ w' E.ok vs (xs.flatMap A.cells) := hr.mono (fun b hb => he.same b (h.okz b hb)) (fun _ hb => hb)
 have hsz : w.heap.size < w'.heap.size := by rw [hh]; simp
 by_cases h0 : cap = 0
 ·subst h0
  obtain rfl : xs = [] := List.eq_nil_of_length_eq_zero (by omega)
  have hno : ∀ k' b,¬ Tk (.slice (some ⟨w.heap.size,0,none⟩) ([] : List A).length 0) (.tok k z []) k' b := by
   intro k' b ht
   cases ht with
   | one _ _ _ _ ht => cases ht; contradiction
  exact ⟨.one _ _ (.tokE _ _ _),⟨fun k' b ht => (hno k' b ht).elim,fun i k1 k2 b b' ht => (hno _ _ ht).elim,fun k1 k2 b b' ht => (hno _ _ ht).elim⟩⟩
 ·have hb : ∀ k' b,Tk (.slice (some ⟨w.heap.size,0,none⟩) xs.length cap) (.tok k z xs) k' b → b = w.heap.size ∧ k' = k := by
   intro k' b ht
   cases ht with
   | one _ _ _ _ ht => cases ht; exact ⟨rfl,rfl⟩
  refine ⟨.one _ _ (.tok w.heap.size 0 cap k z xs vs hc h0 hz hr' hv ((room_push hh).le (by omega))),⟨fun k' b ht => ?_,fun i k1 k2 b b' ht ht' _ => ?_,fun k1 k2 b b' ht ht' hne => ?_⟩⟩
  ·obtain ⟨rfl,rfl⟩ := hb _ _ ht
   exact ⟨⟨hnok,.inl h.grow,hsz⟩,fun q b' o hq hρ e => by have := (h.rz q b' o hq hρ).2.2; omega⟩
  ·obtain ⟨rfl,rfl⟩ := hb _ _ ht
   have := (h.tz i k2 b' ht').1.2.2
   omega
  ·obtain ⟨_,rfl⟩ := hb _ _ ht
   obtain ⟨_,rfl⟩ := hb _ _ ht'
   exact absurd rfl hne
theorem val2_tok (h : Sim φ w0 L E st a w) {S : Sem Value} {C : Array Value} {e : TypeId} (hh : w'.heap = w.heap.push (.cells C e)) (hev : w'.os = w.os ∧ w'.output = w.output) {k z cap : Nat} {xs : List A} {vs : List Value} (hz : ∀ x ∈ xs,x.cells.length = z)
 (hrun : S.run P w = .ok (.slice (some ⟨w.heap.size,0,none⟩) xs.length cap) w')
 (hr : Reps φ w E.ok vs (xs.flatMap A.cells)) (hv : Cells w' w.heap.size 0 vs) (hc : xs.length ≤ cap) (hs : cap * z ≤ C.size) : Val2 P φ w0 L E st a w S (.tok k z xs) := by
 obtain ⟨h1,h2⟩ := new_tok (k := k) h hh hev hz hr hv hc hs
 exact ⟨_,w',E,hrun,ext_push hh hev,.refl E w w',h1,h2⟩
def chkZ (P : Program) (e : TypeId) (z : Nat) (zero : A) : Bool :=
 match P.info? e with
 | some i => i.size == z && (match i.zero with | some v => chkCs v.cells.toList zero.cells && v.cells.size == z | none => false)
 | none => false
theorem chkZ_spec {e : TypeId} {z : Nat} {zero : A} (h : chkZ P e z zero = true) : ∃ i v,P.info? e = some i ∧ i.size = z ∧ i.zero = some v ∧ chkCs v.cells.toList zero.cells = true ∧ v.cells.size = z := by
 unfold chkZ at h
 split at h
 ·rename_i i hi
  simp only [Bool.and_eq_true,beq_iff_eq] at h
  obtain ⟨h1,h2⟩ := h
  split at h2
  ·rename_i v hv
   simp only [Bool.and_eq_true,beq_iff_eq] at h2
   exact ⟨i,v,hi,h1,hv,h2.1,h2.2⟩
  ·cases h2
 ·cases h
theorem madeCells_replicate (z : Array Value) : ∀ c : Nat,(madeCells z (c * z.size)).toList = (List.replicate c z.toList).flatten
 | 0 => by simp [madeCells]
 | c + 1 => by
   have ih := madeCells_replicate z c
   rw [List.replicate_succ',List.flatten_append,← ih]
   simp only [madeCells,Array.toList_map,Array.toList_range,Nat.succ_mul,List.range_add,List.map_append,List.map_map,List.flatten_cons,List.flatten_nil,List.append_nil]
   congr 1
   apply List.ext_getElem?
   intro i
   by_cases hi : i < z.size
   ·simp [hi,Nat.mod_eq_of_lt hi]
   ·simp [hi]
theorem reps_replicate {ok : Nat → Prop} {vs : List Value} {zero : A} (h : Reps φ w ok vs zero.cells) : ∀ c : Nat,Reps φ w ok (List.replicate c vs).flatten ((List.replicate c zero).flatMap A.cells)
 | 0 => .nil
 | c + 1 => by simpa [List.replicate_succ] using h.append (reps_replicate h c)
theorem val_mks {t e : TypeId} {z d bytes : Nat} {zero : A} {l c : Operand} {l' c' : Opd} (h : Sim φ w0 L E st a w) (hl : chkOpd φ l l' = true) (hc : chkOpd φ c c' = true) (ht : P.underlying t = some (.slice e))
 (hz : chkZ P e z zero = true) (hb : ∀ i,P.info? e = some i → i.bytes = bytes) {r : A}
 (hr : (match l'.v st,c'.v st with
  | .int .i64 n,.int .i64 m =>
    if 0 ≤ n ∧ n ≤ m ∧ m < (lim : Int) ∧ bytes ≤ 256 ∧ zero.cells.length = z then some (A.tok (8 * d) z (List.replicate n.toNat zero)) else none
  | _,_ => none) = some r) : Val2 P φ w0 L E st a w (Instr.makeSlice t (a.eval l) (a.eval c)) r := by
 have vl := (opd_ok h hl).1
 have vc := (opd_ok h hc).1
 split at hr
 ·rename_i n m e1 e2
  rw [e1] at vl; rw [e2] at vc
  rw [vl.int_inv,vc.int_inv]
  split at hr
  ·rename_i hcond
   obtain ⟨h0,hnm,hm,hb256,hzl⟩ := hcond
   simp only [Option.some.injEq] at hr; subst hr
   obtain ⟨i,v,hi,hsz,hzero,hcs,hvz⟩ := chkZ_spec hz
   have hbi := hb i hi
   have hlim : m < 1099511627776 := by simpa [lim] using hm
   have hbytes : (i.bytes : Int) * m ≤ 281474976710656 := by
    rw [hbi]
    have h1 : (bytes : Int) ≤ 256 := by omega
    have h2 : (bytes : Int) * m ≤ 256 * m := Int.mul_le_mul_of_nonneg_right h1 (by omega)
    omega
   have hrun := run_make w t e i v ht hi hzero .i64 .i64 n m h0 hnm hbytes (by omega)
   have hlen : (List.replicate n.toNat zero).length = n.toNat := by simp
   have hmade : (madeCells v.cells (m.toNat * i.size)).toList = (List.replicate m.toNat v.cells.toList).flatten := by
    rw [hsz,← hvz]; exact madeCells_replicate _ _
   have hcells := cells_push (w := w) (w' := w.alloc (.cells (madeCells v.cells (m.toNat * i.size)) e)) rfl
   rw [hmade] at hcells
   have hsplit : (List.replicate m.toNat v.cells.toList).flatten = (List.replicate n.toNat v.cells.toList).flatten ++ (List.replicate (m.toNat - n.toNat) v.cells.toList).flatten := by
    rw [← List.flatten_append,List.replicate_append_replicate]; congr 2; omega
   rw [hsplit] at hcells
   refine val2_tok (w' := w.alloc (.cells (madeCells v.cells (m.toNat * i.size)) e)) h rfl ⟨rfl,rfl⟩ (fun x hx => by rw [List.eq_of_mem_replicate hx]; exact hzl) (by rw [hlen]; exact hrun) (reps_replicate (chkCs_reps hcs) _) hcells.left (by rw [hlen]; omega) (by rw [size_madeCells,hsz]; exact Nat.le_refl _)
  ·cases hr
 ·cases hr
theorem foldl_set (off : Nat) : ∀ (vs : List Value) (j : Nat) (cs : Array Value),off + j + vs.length ≤ cs.size →
 ((vs.zipIdx j).foldl (fun cs (p : Value × Nat) => cs.setIfInBounds (off + p.2) p.1) cs).toList = cs.toList.take (off + j) ++ vs ++ cs.toList.drop (off + j + vs.length) := by
 intro vs
 induction vs with
 | nil => intro j cs h; simp
 | cons v vs ih =>
   intro j cs h
   simp only [List.length_cons] at h
   rw [List.zipIdx_cons,List.foldl_cons,ih (j + 1) _ (by simp; omega)]
   have hlt : off + j < cs.toList.length := by simp; omega
   simp only [Array.toList_setIfInBounds,List.length_cons]
   rw [show off + (j + 1) = (off + j) + 1 from by omega,List.take_set,List.drop_set,if_pos (by omega),show off + j + 1 + vs.length = off + j + (vs.length + 1) from by omega]
   congr 1
   have hlt' : off + j < cs.size := by simpa using hlt
   rw [List.take_succ_eq_append_getElem hlt,List.set_append]
   simp [List.length_take,Nat.min_eq_left (Nat.le_of_lt hlt')]
theorem run_fill_step {place : Nat → Option (Nat × Nat)} {cells : Array Value} {i off : Nat} {v : Value} {rest : List (Nat × Value)} (hp : place i = some (off,v.cells.size)) (hb : off + v.cells.size ≤ cells.size) :
 ∃ cells',cells'.toList = cells.toList.take off ++ v.cells.toList ++ cells.toList.drop (off + v.cells.size) ∧ Instr.fill place cells ((i,v) :: rest) = Instr.fill place cells' rest := by
 refine ⟨v.cells.zipIdx.foldl (fun cs (c,j) => cs.setIfInBounds (off + j) c) cells,?_,?_⟩
 ·rw [← Array.foldl_toList,Array.toList_zipIdx]
  have := foldl_set off v.cells.toList 0 cells (by simpa using hb)
  simpa using this
 ·simp only [Instr.fill,hp]
  rw [if_neg]
  simp; omega
theorem All2.set {p : Value → A → Prop} {vs us : List Value} {cs ds : List A} (h : All2 p vs cs) (hu : All2 p us ds) {off : Nat} {cs' : List A} (hs : setCells cs off ds = some cs') :
 All2 p (vs.take off ++ us ++ vs.drop (off + us.length)) cs' ∧ off + us.length ≤ vs.length ∧ cs'.length = cs.length := by
 unfold setCells at hs
 split at hs
 ·rename_i hle
  simp only [Option.some.injEq] at hs; subst hs
  have hul := hu.1
  refine ⟨?_,by rw [h.1,hul]; exact hle,by simp; omega⟩
  have h1 : All2 p (vs.take off) (cs.take off) := by simpa using h.dropTake 0 off
  have h2 : All2 p (vs.drop (off + us.length)) (cs.drop (off + ds.length)) := by
   have := h.dropTake (off + us.length) (vs.length)
   rw [List.take_of_length_le (by simp),List.take_of_length_le (by simp [h.1])] at this
   rwa [hul] at this ⊢
  exact (h1.append hu).append h2
 ·cases hs
def PC (φ : Nat → Nat) (E : Env) (st : St) (a : Act) (w : World) (v : Value) (x : A) : Prop := RV1 φ E st.r w v x ∧ ∀ k b,Tk1 v x k b → ∃ i,Tk (a.eval (.tmp i)) (st.t i) k b
theorem A.cells_one {x : A} (h : ∀ cs,x ≠ .agg cs) : x.cells = [x] := by
 cases x <;> first | rfl | exact absurd rfl (h _)
theorem solid_one {v : Value} {x : A} (hv : RV φ E st.r w v x) (hs : solid st.r x = true) (hx : ∀ cs,x ≠ .agg cs) : RV1 φ E st.r w v x ∧ v.cells = #[v] := by
 have dat : Rep φ w E.ok v x → RV1 φ E st.r w v x ∧ v.cells = #[v] := by
  intro h1
  have h4 := h1.oneCell hx
  exact ⟨.data _ _ h1,by cases v <;> first | rfl | exact absurd rfl (h4.1 _)⟩
 cases hv with
 | one _ _ h1 => cases h1 with
   | any => simp [solid,pureC] at hs
   | undef => simp [solid,pureC] at hs
   | data _ _ h1 => exact dat h1
   | tokE => exact ⟨.tokE _ _ _,rfl⟩
   | tok b o cap k z xs vs hcc h0 hz h hv' hr => exact ⟨.tok b o cap k z xs vs hcc h0 hz h hv' hr,rfl⟩
   | viewN _ _ _ _ h1 => simp [solid,h1] at hs
   | viewE ad q off R h1 hb hn => exact ⟨.viewE ad q off R h1 hb hn,rfl⟩
   | view b o cap q off n R h1 hb hn hcc h0 hρ hr => exact ⟨.view b o cap q off n R h1 hb hn hcc h0 hρ hr,rfl⟩
   | locN _ _ _ _ h1 => simp [solid,h1] at hs
   | loc b o q i c R h1 hρ => exact ⟨.loc b o q i c R h1 hρ,rfl⟩
 | tup => simp [solid,pureC] at hs
 | agg => exact absurd rfl (hx _)
 | fn f vs xs h1 =>
   simp only [solid,pureC,List.isEmpty_iff] at hs
   subst hs
   have := h1.1
   simp at this
   subst this
   exact ⟨.data _ _ (.fn f [] [] .nil),rfl⟩
theorem solid_cells {v : Value} {x : A} (hv : RV φ E st.r w v x) (hc : Copy st a v x) (hs : x.cells.all (solid st.r) = true) : All2 (PC φ E st a w) v.cells.toList x.cells := by
 by_cases hx : ∃ cs,x = .agg cs
 ·obtain ⟨cs,rfl⟩ := hx
  obtain ⟨vs,rfl,h⟩ := hv.agg_inv
  refine ⟨by simpa [Value.cells,A.cells] using h.1,fun j v x hv' hx => ?_⟩
  simp only [Value.cells,A.cells] at hv' hx
  exact ⟨h.2 j v x hv' hx,fun k b ht => hc k b (.agg vs cs j k b v x hv' hx ht)⟩
 ·have hx' : ∀ cs,x ≠ .agg cs := fun cs e => hx ⟨cs,e⟩
  rw [A.cells_one hx'] at hs ⊢
  simp only [List.all_cons,List.all_nil,Bool.and_true] at hs
  obtain ⟨h1,h2⟩ := solid_one hv hs hx'
  rw [h2]
  exact .cons ⟨h1,fun k b ht => hc k b (.one _ _ _ _ ht)⟩ .nil
def chkParts (φ : Nat → Nat) (place : Nat → Option (Nat × Nat)) : List (Nat × Operand) → List (Nat × Nat × Opd) → Bool
 | [],[] => true
 | (i,x) :: l,(off,z,y) :: m => place i == some (off,z) && chkOpd φ x y && chkParts φ place l m
 | _,_ => false
theorem run_fillA (h : Sim φ w0 L E st a w) {place : Nat → Option (Nat × Nat)} : ∀ (l : List (Nat × Operand)) (m : List (Nat × Nat × Opd)) (cells : Array Value) (cs cs' : List A),chkParts φ place l m = true →
 All2 (PC φ E st a w) cells.toList cs → fillA st cs m = some cs' → ∃ cells',Instr.fill place cells (l.map fun p => (p.1,a.eval p.2)) = some cells' ∧ All2 (PC φ E st a w) cells'.toList cs' := by
 intro l
 induction l with
 | nil =>
   intro m cells cs cs' hc hv hf
   cases m with
   | nil => simp [fillA] at hf; subst hf; exact ⟨cells,rfl,hv⟩
   | cons => simp [chkParts] at hc
 | cons p l ih =>
   intro m cells cs cs' hc hv hf
   obtain ⟨i,x⟩ := p
   cases m with
   | nil => simp [chkParts] at hc
   | cons q m =>
     obtain ⟨off,z,y⟩ := q
     simp only [chkParts,Bool.and_eq_true,beq_iff_eq] at hc
     obtain ⟨⟨hp,hx⟩,hc⟩ := hc
     simp only [fillA] at hf
     split at hf
     ·rename_i hcond
      obtain ⟨hzl,hsol⟩ := hcond
      obtain ⟨cs1,hs,hf⟩ := Option.bind_eq_some_iff.1 hf
      have ho := opd_ok h hx
      have hcell := solid_cells ho.1 ho.2 hsol
      have hsz : (a.eval x).cells.size = z := by have := hcell.1; simp at this; omega
      obtain ⟨h1,h2,h3⟩ := hv.set hcell hs
      simp only [Array.length_toList] at h1 h2
      obtain ⟨cells',hc1,hc2⟩ := run_fill_step (place := place) (cells := cells) (i := i) (v := a.eval x) (rest := l.map fun p => (p.1,a.eval p.2)) (by rw [hp,hsz]) h2
      simp only [List.map_cons]
      rw [hc2]
      exact ih m cells' cs1 cs' hc (by rw [hc1]; exact h1) hf
     ·cases hf
end
end Go.Ab
namespace Go.Ab
section
variable {P : Program} {φ : Nat → Nat} {w0 : World} {L : Lent} {E : Env} {st : St} {a : Act} {w w' : World}
theorem RV1.pureC {v : Value} {x : A} {r : Nat → Option Root} (h : RV1 φ E r w v x) (hp : Ab.pureC x = true) : Rep φ w E.ok v x := by
 cases h with
 | data _ _ h => exact h
 | _ => simp [Ab.pureC] at hp
theorem RV.fn_nil {v : Value} {f : Nat} {r : Nat → Option Root} (h : RV φ E r w v (.fn f [])) : Rep φ w E.ok v (.fn f []) := by
 obtain ⟨vs,rfl,hv⟩ := h.fn_inv
 have := hv.1
 simp at this; subst this
 exact .fn f [] [] .nil
theorem RV.pureC {v : Value} {x : A} {r : Nat → Option Root} (h : RV φ E r w v x) (hp : Ab.pureC x = true) : Rep φ w E.ok v x := by
 cases x with
 | fn f caps =>
   simp only [Ab.pureC,List.isEmpty_iff] at hp; subst hp
   exact h.fn_nil
 | agg => simp [Ab.pureC] at hp
 | tup => simp [Ab.pureC] at hp
 | _ => cases h with | one _ _ h => exact h.pureC hp
theorem dat_rep {v : Value} {x y : A} {r : Nat → Option Root} (h : RV φ E r w v x) (hd : dat x = some y) : Rep φ w E.ok v y := by
 unfold dat at hd
 split at hd
 ·rename_i hp
  simp only [Option.some.injEq] at hd; subst hd
  by_cases hx : ∃ cs,x = .agg cs
  ·obtain ⟨cs,rfl⟩ := hx
   obtain ⟨vs,rfl,hv⟩ := h.agg_inv
   simp only [Ab.pure,List.all_eq_true] at hp
   refine .agg _ _ (Reps.norm (All2.reps ⟨hv.1,fun j v x hv' hx => (hv.2 j v x hv' hx).pureC (hp x (List.mem_of_getElem? hx))⟩))
  ·have hp' : Ab.pureC x = true := by cases x <;> first | exact hp | exact absurd ⟨_,rfl⟩ hx
   have hn : normA x = normC x := by cases x <;> first | rfl | exact absurd ⟨_,rfl⟩ hx
   rw [hn]
   exact (h.pureC hp').norm
 ·cases hd
theorem run_places {fs : Array Field} (h : fs.toList.all (fun f => (P.info? f.type).isSome) = true) :
 (fs.mapM fun f => (do Pure.pure (f.offset,← sizeOf f.type) : Sem (Nat × Nat))).run P w = .ok (fs.map fun f => (f.offset,P.cellsOf f.type)) w := by
 rw [Array.mapM_eq_mapM_toList]
 have key : ∀ l : List Field,l.all (fun f => (P.info? f.type).isSome) = true → (l.mapM fun f => (do Pure.pure (f.offset,← sizeOf f.type) : Sem (Nat × Nat))).run P w = .ok (l.map fun f => (f.offset,P.cellsOf f.type)) w := by
  intro l
  induction l with
  | nil => intro _; rfl
  | cons f l ih =>
    intro h
    simp only [List.all_cons,Bool.and_eq_true] at h
    obtain ⟨i,hi⟩ := Option.isSome_iff_exists.1 h.1
    have e1 : (sizeOf f.type).run P w = .ok (P.cellsOf f.type) w := by simp [sizeOf,typeInfo,hi,Program.cellsOf]
    simp only [List.mapM_cons,Sem.run_bind,Sem.run_pure,Result.andThen_ok,e1,ih h.2,List.map_cons]
 have := key fs.toList h
 have e : (List.map (fun f : Field => (f.offset,P.cellsOf f.type)) fs.toList).toArray = fs.map fun f => (f.offset,P.cellsOf f.type) := by apply Array.ext'; simp
 rw [Sem.run_map,this,Result.andThen_ok,e]
def placeOf (P : Program) (t : TypeId) (i : Nat) : Option (Nat × Nat) :=
 match P.underlying t with
 | some (.struct fs) => (fs[i]?).map fun f => (f.offset,P.cellsOf f.type)
 | some (.array _ e) => some (i * P.cellsOf e,P.cellsOf e)
 | _ => none
def chkBuild (P : Program) (φ : Nat → Nat) (t : TypeId) (parts : List (Nat × Operand)) (zero : List A) (ps : List (Nat × Nat × Opd)) : Bool :=
 (match P.info? t with | some i => (match i.zero with | some v => chkCs v.cells.toList zero | none => false) | none => false) &&
 (match P.underlying t with
  | some (.struct fs) => fs.toList.all (fun f => (P.info? f.type).isSome)
  | some (.array _ e) => (P.info? e).isSome
  | _ => false) &&
 chkParts φ (placeOf P t) parts ps
theorem PC.of_rep {v : Value} {x : A} (h : Rep φ w E.ok v x) : PC φ E st a w v x := ⟨.data _ _ h,fun k b ht => (Tk1.of_rep h ht).elim⟩
theorem val_build {t : TypeId} {parts : Array (Nat × Operand)} {zero : List A} {ps : List (Nat × Nat × Opd)} (h : Sim φ w0 L E st a w) (hc : chkBuild P φ t parts.toList zero ps = true) {r : A}
 (hr : (fillA st zero ps).map A.agg = some r) : Val P φ E st a w (Instr.build t (parts.map fun p => (p.1,a.eval p.2))) r := by
 obtain ⟨cs',hf,rfl⟩ := Option.map_eq_some_iff.1 hr
 simp only [chkBuild,Bool.and_eq_true] at hc
 obtain ⟨⟨hz,ht⟩,hp⟩ := hc
 split at hz
 ·rename_i i hi
  split at hz
  ·rename_i z hzero
   have h0 : All2 (PC φ E st a w) z.cells.toList zero := (All2.of_reps (chkCs_reps hz)).imp fun v x hh => PC.of_rep hh
   obtain ⟨cells',hfill,hall⟩ := run_fillA h parts.toList ps z.cells zero cs' hp h0 hf
   have hparts : (parts.map fun p => (p.1,a.eval p.2)).toList = parts.toList.map fun p => (p.1,a.eval p.2) := by simp
   have hfin : RV φ E st.r w (.agg cells') (.agg cs') ∧ Copy st a (.agg cells') (.agg cs') := by
    obtain ⟨l,rfl⟩ : ∃ l : List Value,cells' = l.toArray := ⟨cells'.toList,by simp⟩
    refine ⟨.agg _ _ (hall.imp fun v x hh => hh.1),fun k b htk => ?_⟩
    generalize hu : Value.agg l.toArray = u at htk
    cases htk with
    | one _ _ _ _ htk => cases htk
    | agg us xs j k b v x hv hx htk => simp at hu; subst hu; exact (hall.2 j v x (by simpa using hv) hx).2 k b htk
   have hzv : (zeroValue t).run P w = .ok z w := by simp [zeroValue,typeInfo,hi,hzero]
   refine ⟨_,?_,hfin.1,hfin.2⟩
   simp only [Instr.build,Sem.run_bind,hzv,Result.andThen_ok]
   cases hd : P.underlying t with
   | none => simp [hd] at ht
   | some d =>
     rw [run_underlying hd]
     cases d <;> simp only [hd] at ht <;> (try (cases ht; done))
     ·rename_i len e
      obtain ⟨ei,hei⟩ := Option.isSome_iff_exists.1 ht
      have e1 : (sizeOf e).run P w = .ok (P.cellsOf e) w := by simp [sizeOf,typeInfo,hei,Program.cellsOf]
      have hpl : placeOf P t = fun i => some (i * P.cellsOf e,P.cellsOf e) := by funext i; simp [placeOf,hd]
      rw [hpl] at hfill
      simp only [Result.andThen_ok,Sem.run_bind,e1,hparts,hfill,Sem.run_pure]
     ·rename_i fs
      have hpl : placeOf P t = fun i => (fs.map fun f => (f.offset,P.cellsOf f.type))[i]? := by funext i; simp [placeOf,hd]
      rw [hpl] at hfill
      simp only [Result.andThen_ok,Sem.run_bind,run_places ht,hparts,hfill,Sem.run_pure]
  ·cases hz
 ·cases hz
theorem flat_set {xs : List A} {z : Nat} (hz : ∀ x ∈ xs,x.cells.length = z) {v : A} (hv : v.cells.length = z) : ∀ {i : Nat},i < xs.length →
 (xs.set i v).flatMap A.cells = (xs.flatMap A.cells).take (i * z) ++ v.cells ++ (xs.flatMap A.cells).drop (i * z + z) := by
 induction xs with
 | nil => intro i h; simp at h
 | cons x xs ih =>
   intro i h
   have hx := hz x (List.mem_cons_self ..)
   cases i with
   | zero =>
     simp only [List.set_cons_zero,List.flatMap_cons,Nat.zero_mul,List.take_zero,List.nil_append,Nat.zero_add]
     rw [List.drop_append,hx,List.drop_eq_nil_of_le (by omega),Nat.sub_self,List.drop_zero,List.nil_append]
   | succ i =>
     have h1 : (i + 1) * z - x.cells.length = i * z := by rw [hx,Nat.succ_mul]; omega
     have h2 : x.cells.take ((i + 1) * z) = x.cells := List.take_of_length_le (by rw [hx,Nat.succ_mul]; omega)
     have h3 : (i + 1) * z + z - x.cells.length = i * z + z := by rw [hx,Nat.succ_mul]; omega
     have h4 : x.cells.drop ((i + 1) * z + z) = [] := List.drop_eq_nil_of_le (by rw [hx,Nat.succ_mul]; omega)
     simp only [List.set_cons_succ,List.flatMap_cons]
     rw [ih (fun y hy => hz y (List.mem_cons_of_mem _ hy)) (by simpa using h),List.take_append,List.drop_append,h1,h2,h3,h4]
     simp
def chkPartsS (φ : Nat → Nat) : List (Nat × Operand) → List (Nat × Opd) → Bool
 | [],[] => true
 | (i,x) :: l,(j,y) :: m => i == j && chkOpd φ x y && chkPartsS φ l m
 | _,_ => false
theorem run_fillS (h : Sim φ w0 L E st a w) {z : Nat} : ∀ (l : List (Nat × Operand)) (m : List (Nat × Opd)) (cells : Array Value) (xs xs' : List A),chkPartsS φ l m = true → (∀ x ∈ xs,x.cells.length = z) →
 Reps φ w E.ok cells.toList (xs.flatMap A.cells) → fillS st z xs m = some xs' →
 ∃ cells',Instr.fill (fun i => some (i * z,z)) cells (l.map fun p => (p.1,a.eval p.2)) = some cells' ∧ Reps φ w E.ok cells'.toList (xs'.flatMap A.cells) ∧ (∀ x ∈ xs',x.cells.length = z) ∧ xs'.length = xs.length := by
 intro l
 induction l with
 | nil =>
   intro m cells xs xs' hc hz hv hf
   cases m with
   | nil => simp [fillS] at hf; subst hf; exact ⟨cells,rfl,hv,hz,rfl⟩
   | cons => simp [chkPartsS] at hc
 | cons p l ih =>
   intro m cells xs xs' hc hz hv hf
   obtain ⟨i,x⟩ := p
   cases m with
   | nil => simp [chkPartsS] at hc
   | cons q m =>
     obtain ⟨j,y⟩ := q
     simp only [chkPartsS,Bool.and_eq_true,beq_iff_eq] at hc
     obtain ⟨⟨rfl,hx⟩,hc⟩ := hc
     simp only [fillS] at hf
     obtain ⟨v,hd,hf⟩ := Option.bind_eq_some_iff.1 hf
     split at hf
     ·rename_i hcond
      obtain ⟨hvz,hlt⟩ := hcond
      have hrep := dat_rep (opd_ok h hx).1 hd
      have hcells := hrep.cells
      have hsz : (a.eval x).cells.size = z := by have := hcells.length; simp at this; omega
      have hfl := flat_length hz
      have hcl : cells.size = xs.length * z := by have := hv.length; rw [hfl] at this; simpa using this
      have hle : i * z + z ≤ xs.length * z := by
       have : (i + 1) * z ≤ xs.length * z := Nat.mul_le_mul_right z hlt
       rw [Nat.succ_mul] at this; exact this
      obtain ⟨cells',hc1,hc2⟩ := run_fill_step (place := fun i => some (i * z,z)) (cells := cells) (i := i) (v := a.eval x) (rest := l.map fun p => (p.1,a.eval p.2)) (by rw [hsz]) (by rw [hsz,hcl]; exact hle)
      simp only [List.map_cons]
      rw [hc2]
      have hz' : ∀ y ∈ xs.set i v,y.cells.length = z := by
       intro y hy
       rcases List.mem_or_eq_of_mem_set hy with h' | rfl
       ·exact hz y h'
       ·exact hvz
      obtain ⟨c2,h1,h2,h3,h4⟩ := ih m cells' (xs.set i v) xs' hc hz' (by
       rw [hc1,hsz,flat_set hz hvz hlt]
       exact ((hv.take _).append hcells).append (hv.drop _)) hf
      exact ⟨c2,h1,h2,h3,by simpa using h4⟩
     ·cases hf
theorem val_bsl {t e : TypeId} {n z d : Nat} {parts : Array (Nat × Operand)} {zero : A} {ps : List (Nat × Opd)} (h : Sim φ w0 L E st a w) (ht : P.underlying t = some (.slice e)) (hz : chkZ P e z zero = true)
 (hc : chkPartsS φ parts.toList ps = true) {r : A}
 (hr : (if n * z ≤ 16777216 ∧ zero.cells.length = z then (fillS st z (List.replicate n zero) ps).map fun xs => A.tok (8 * d) z xs else none) = some r) :
 Val2 P φ w0 L E st a w (Instr.buildSlice t n (parts.map fun p => (p.1,a.eval p.2))) r := by
 split at hr
 ·rename_i hcond
  obtain ⟨xs,hf,rfl⟩ := Option.map_eq_some_iff.1 hr
  obtain ⟨i,v,hi,hsz,hzero,hcs,hvz⟩ := chkZ_spec hz
  have hmade : (madeCells v.cells (n * z)).toList = (List.replicate n v.cells.toList).flatten := by rw [← hvz]; exact madeCells_replicate _ _
  have h0 : Reps φ w E.ok (madeCells v.cells (n * z)).toList ((List.replicate n zero).flatMap A.cells) := by rw [hmade]; exact reps_replicate (chkCs_reps hcs) n
  obtain ⟨cells',h1,h2,h3,h4⟩ := run_fillS h parts.toList ps _ _ xs hc (fun x hx => by rw [List.eq_of_mem_replicate hx]; exact hcond.2) h0 hf
  have hxl : xs.length = n := by simpa using h4
  have hparts : (parts.map fun p => (p.1,a.eval p.2)).toList = parts.toList.map fun p => (p.1,a.eval p.2) := by simp
  have hlim : ¬ n * z > 16777216 := by omega
  have hcl : cells'.size = n * z := by have := h2.length; rw [flat_length h3,hxl] at this; simpa using this
  have hrun : (Instr.buildSlice t n (parts.map fun p => (p.1,a.eval p.2))).run P w = .ok (.slice (some ⟨w.heap.size,0,none⟩) n n) { w with heap := w.heap.push (.cells cells' e) } := by
   have e1 : (sizeOf e).run P w = .ok z w := by simp [sizeOf,typeInfo,hi,hsz]
   have hzv : (zeroValue e).run P w = .ok v w := by simp [zeroValue,typeInfo,hi,hzero]
   by_cases hn : n * z = 0
   ·have hm0 : madeCells v.cells (n * z) = #[] := by rw [hn]; simp [madeCells,Array.range_zero']
    rw [hm0] at h1
    have hm1 : ((Array.range (n * z)).map ((#[] : Array Value)[· % (#[] : Array Value).size]!)) = #[] := by rw [hn]; simp [Array.range_zero']
    simp only [Instr.buildSlice,Sem.run_bind,run_underlying ht,Result.andThen_ok,e1,Sem.run_ite,hn,if_true,Sem.run_pure,hparts,show ¬ (0 > 2 ^ 24) from by decide,if_false]
    simp only [hn] at hm1
    simp only [hm1,h1]
    simp [newRow]
   ·simp only [Instr.buildSlice,Sem.run_bind,run_underlying ht,Result.andThen_ok,e1,hlim,Sem.run_ite,if_false,hn,hzv,Sem.run_pure,hparts]
    have hm1 : ((Array.range (n * z)).map (v.cells[· % v.cells.size]!)) = madeCells v.cells (n * z) := rfl
    simp only [hm1,h1]
    simp [newRow]
  refine val2_tok (w' := { w with heap := w.heap.push (.cells cells' e) }) h (C := cells') (e := e) (cap := n) (vs := cells'.toList) rfl ⟨rfl,rfl⟩ h3 (by rw [hxl]; exact hrun) h2 (cells_push rfl) (by omega) (by rw [hcl]; exact Nat.le_refl _)
 ·cases hr
end
end Go.Ab
namespace Go.Ab
inductive OwnRep (φ : Nat → Nat) (w : World) (K : Nat → Prop) : Value → Nat → List A → Option Nat → Prop
 | empty (ad : Option Addr) (z : Nat) : OwnRep φ w K (.slice ad 0 0) z [] none
 | mk (b o cap z : Nat) (xs : List A) (vs : List Value) (hc : xs.length ≤ cap) (h0 : cap ≠ 0) (hz : ∀ x ∈ xs,x.cells.length = z)
    (h : Reps φ w K vs (xs.flatMap A.cells)) (hv : Cells w b o vs) (hr : Room w b (o + cap * z)) : OwnRep φ w K (.slice (some ⟨b,o,none⟩) xs.length cap) z xs (some b)
inductive CellRep (φ : Nat → Nat) (w : World) (K : Nat → Prop) : Value → A → Option Nat → Prop
 | data (v : Value) (a : A) (h : Rep φ w K v a) (ha : ∀ cs,a ≠ .agg cs) : CellRep φ w K v a none
 | own (v : Value) (z : Nat) (xs : List A) (b : Option Nat) (h : OwnRep φ w K v z xs b) : CellRep φ w K v (.own z xs) b
inductive CellReps (φ : Nat → Nat) (w : World) (K : Nat → Prop) : List Value → List A → List Nat → Prop
 | nil : CellReps φ w K [] [] []
 | cons (v : Value) (a : A) (b : Option Nat) (vs : List Value) (as : List A) (bs : List Nat) (h : CellRep φ w K v a b) (t : CellReps φ w K vs as bs) : CellReps φ w K (v :: vs) (a :: as) (b.toList ++ bs)
inductive BoxRep (φ : Nat → Nat) (w : World) (K : Nat → Prop) : Value → Nat → A → List Nat → Prop
 | mk (b o z : Nat) (x : A) (vs : List Value) (bs : List Nat) (h : CellReps φ w K vs x.cells bs) (hv : Cells w b o vs) (hr : Room w b (o + z)) (hz : x.cells.length = z) : BoxRep φ w K (.pointer (some ⟨b,o,none⟩)) z x (b :: bs)
inductive ArgRep (φ : Nat → Nat) (w : World) (K : Nat → Prop) : Value → A → List Nat → Prop
 | data (v : Value) (a : A) (h : Rep φ w K v a) : ArgRep φ w K v a []
 | iob (v : Value) (z : Nat) (x : A) (bs : List Nat) (h : BoxRep φ w K v z x bs) : ArgRep φ w K v (.iob z [x]) bs
 | ios (v : Value) (z : Nat) (xs : List A) (b : Option Nat) (h : OwnRep φ w K v z xs b) : ArgRep φ w K v (.ios z xs) b.toList
inductive ArgReps (φ : Nat → Nat) (w : World) (K : Nat → Prop) : List Value → List A → List Nat → Prop
 | nil : ArgReps φ w K [] [] []
 | cons (v : Value) (a : A) (b : List Nat) (vs : List Value) (as : List A) (bs : List Nat) (h : ArgRep φ w K v a b) (t : ArgReps φ w K vs as bs) : ArgReps φ w K (v :: vs) (a :: as) (b ++ bs)
inductive ResRep (φ : Nat → Nat) (w : World) (K : Nat → Prop) : Value → A → List Nat → Prop
 | data (v : Value) (a : A) (h : Rep φ w K v a) : ResRep φ w K v a []
 | tok (v : Value) (j z : Nat) (xs : List A) (b : Option Nat) (h : OwnRep φ w K v z xs b) (hp : xs.all A.plain = true) : ResRep φ w K v (.tok j z xs) b.toList
 | iob (v : Value) (z : Nat) (x : A) (bs : List Nat) (h : BoxRep φ w K v z x bs) : ResRep φ w K v (.iob z [x]) bs
inductive ResReps (φ : Nat → Nat) (w : World) (K : Nat → Prop) : List Value → List A → List Nat → Prop
 | nil : ResReps φ w K [] [] []
 | cons (v : Value) (a : A) (b : List Nat) (vs : List Value) (as : List A) (bs : List Nat) (h : ResRep φ w K v a b) (t : ResReps φ w K vs as bs) : ResReps φ w K (v :: vs) (a :: as) (b ++ bs)
inductive OutReps (φ : Nat → Nat) (w : World) (K : Nat → Prop) : List Value → List A → List A → List Nat → Prop
 | nil : OutReps φ w K [] [] [] []
 | data (v : Value) (a : A) (vs : List Value) (as os : List A) (bs : List Nat) (ha : (∀ z xs,a ≠ .iob z xs) ∧ ∀ z xs,a ≠ .ios z xs) (t : OutReps φ w K vs as os bs) : OutReps φ w K (v :: vs) (a :: as) os bs
 | iob (v : Value) (z : Nat) (x y : A) (b : List Nat) (vs : List Value) (as os : List A) (bs : List Nat) (h : BoxRep φ w K v z y b) (t : OutReps φ w K vs as os bs) :
    OutReps φ w K (v :: vs) (.iob z [x] :: as) (.iob z [y] :: os) (b ++ bs)
 | ios (v : Value) (z : Nat) (xs ys : List A) (b : Option Nat) (vs : List Value) (as os : List A) (bs : List Nat) (h : OwnRep φ w K v z ys b) (hl : ys.length = xs.length) (t : OutReps φ w K vs as os bs) :
    OutReps φ w K (v :: vs) (.ios z xs :: as) (.ios z ys :: os) (b.toList ++ bs)
 | gone (v : Value) (z : Nat) (xs : List A) (vs : List Value) (as os : List A) (bs : List Nat) (t : OutReps φ w K vs as os bs) : OutReps φ w K (v :: vs) (.ios z xs :: as) (.any :: os) bs
def packV : List Value → Value
 | [v] => v
 | vs => .tuple vs.toArray
structure Back (φ : Nat → Nat) (w : World) (K : Nat → Prop) (vs : List Value) (args res outs : List A) (bs : List Nat) (v : Value) (w' : World) : Prop where
 grow : w.heap.size ≤ w'.heap.size
 frame : ∀ b,b < w.heap.size → b ∉ bs → w'.heap[b]? = w.heap[b]?
 env : w'.os = w.os ∧ w'.output = w.output
 fr : ∀ b off,b < w.heap.size → w'.frozen? ⟨b,off,none⟩ = w.frozen? ⟨b,off,none⟩
 room : ∀ b n,Room w b n → Room w' b n
 rest : ∃ rvs K' rb ob,v = packV rvs ∧ (∀ b,K b → K' b) ∧ (∀ b,K' b → K b ∨ b ∈ bs ∨ (w.heap.size ≤ b ∧ b < w'.heap.size)) ∧ ResReps φ w' K' rvs res rb ∧ OutReps φ w' K' vs args outs ob ∧
  (rb ++ ob).Nodup ∧ ∀ b ∈ rb ++ ob,¬ K' b ∧ b < w'.heap.size ∧ (b ∈ bs ∨ w.heap.size ≤ b)
def pow10Name : String := "internal/strconv.uint64pow10"
def errNames : List String := ["strconv.ErrSyntax","strconv.ErrRange"]
structure Glob (P : Program) (K : Nat → Prop) (w : World) : Prop where
 sh : ∃ W : World,W.ShapedOpen P ∧ ∀ g,g < P.globals.size → g < W.heap.size → K g ∧ w.heap[g]? = W.heap[g]?
 tab : ∀ g,P.globalNamed pow10Name = some g → K g ∧ Lib.TabIs P w pow10Name .u64 Lib.pow10Tab
 err : ∀ n,errNames.contains n = true → ∀ g,P.globalNamed n = some g → K g ∧ ∃ u v,w.var? P n = some #[.iface u v]
theorem var?_same {P : Program} {n : String} {g : Nat} (hg : P.globalNamed n = some g) {w w' : World} (h : w'.heap[g]? = w.heap[g]?) : w'.var? P n = w.var? P n := by
 unfold World.var?
 rw [hg]
 simp only [Option.bind_some]
 rw [h]
theorem var?_lt {P : Program} {n : String} {g : Nat} (hg : P.globalNamed n = some g) {w : World} {cs : Array Value} (h : w.var? P n = some cs) : g < w.heap.size := by
 unfold World.var? at h
 rw [hg] at h
 simp only [Option.bind_some] at h
 rcases Nat.lt_or_ge g w.heap.size with h' | h'
 ·exact h'
 ·rw [Array.getElem?_eq_none h'] at h; cases h
theorem Glob.on {P : Program} {K K' : Nat → Prop} {w w' : World} (h : Glob P K w) (hK : ∀ b,K b → K' b) (hw : ∀ b,K b → w'.heap[b]? = w.heap[b]?) : Glob P K' w' where
 sh := by
  obtain ⟨W,h1,h2⟩ := h.sh
  exact ⟨W,h1,fun g hg hs => ⟨hK g (h2 g hg hs).1,(hw g (h2 g hg hs).1).trans (h2 g hg hs).2⟩⟩
 tab g hg := by
  obtain ⟨h1,h2⟩ := h.tab g hg
  refine ⟨hK g h1,?_⟩
  unfold Lib.TabIs at h2 ⊢
  rw [var?_same hg (hw g h1)]
  exact h2
 err n hn g hg := by
  obtain ⟨h1,u,v,h2⟩ := h.err n hn g hg
  exact ⟨hK g h1,u,v,by rw [var?_same hg (hw g h1)]; exact h2⟩
theorem Glob.start {P : Program} {W : World} (h : W.ShapedOpen P) (ht : ∀ g,P.globalNamed pow10Name = some g → Lib.TabIs P W pow10Name .u64 Lib.pow10Tab)
 (he : ∀ n,errNames.contains n = true → ∀ g,P.globalNamed n = some g → ∃ u v,W.var? P n = some #[.iface u v]) : Glob P (fun b => b < W.heap.size) W where
 sh := ⟨W,h,fun g _ hs => ⟨hs,rfl⟩⟩
 tab g hg := ⟨var?_lt hg (ht g hg),ht g hg⟩
 err n hn g hg := by
  obtain ⟨u,v,h2⟩ := he n hn g hg
  exact ⟨var?_lt hg h2,u,v,h2⟩
def CallOk (P : Program) (φ : Nat → Nat) (f : Nat) (args res outs : List A) : Prop :=
 ∀ (w : World) (K : Nat → Prop) (vs : List Value) (bs : List Nat),ArgReps φ w K vs args bs → bs.Nodup → (∀ b ∈ bs,¬ K b) → (∀ b,K b → b < w.heap.size) → Glob P K w →
   Calls P (φ f) vs.toArray w fun e w' => ∃ v,e = .returned v ∧ Back φ w K vs args res outs bs v w'
def Entered (P : Program) (f : FuncId) : Prop := ∃ fn,P.funcs[f]? = some fn ∧ fn.name ≠ "runtime.NumGoroutine" ∧ fn.body.isSome = true
def CfOk (P : Program) (φ : Nat → Nat) (cf : CF) : Prop := ∀ f args res outs,cf f args = some (res,outs) → Entered P (φ f) ∧ CallOk P φ f args res outs
def Gl (P : Program) (w0 : World) (L : Lent) : Prop := Glob P L.K0 w0 ∧ ∀ b,L.K0 b → b < w0.heap.size ∧ ¬ L.blk b
theorem Gl.at {P : Program} {φ : Nat → Nat} {w0 : World} {L : Lent} {E : Env} {st : St} {ev : Nat → Value} {w : World} (hG : Gl P w0 L) (h : SimE φ w0 L E st ev w) {K : Nat → Prop} (hK : ∀ b,E.ok b → K b) : Glob P K w :=
 hG.1.on (fun b hb => hK b (h.okU b hb)) fun b hb => h.frame b (hG.2 b hb).1 (hG.2 b hb).2
def CfG (P : Program) (φ : Nat → Nat) (w0 : World) (L : Lent) (cf : CF) : Prop := CfOk P φ cf ∧ Gl P w0 L
section
variable {P : Program} {φ : Nat → Nat} {w0 : World} {L : Lent} {E : Env} {st : St} {a : Act} {w : World}
theorem run_callFunc {f : FuncId} (h : Entered P f) (args : Array Value) : (callFunc f args).run P w = .ok (.enter f args) w := by
 obtain ⟨fn,h1,h2,h3⟩ := h
 obtain ⟨c,hc⟩ := Option.isSome_iff_exists.1 h3
 simp [callFunc,h1,h2,hc]
theorem run_call {o : Oper} {c : Call} {x : Operand} (ho : o.op = .call c) (hc : c.callee = .value x) {f : FuncId} {caps : Array Value} (hx : a.eval x = .func (.func f) #[] caps) (h : Entered P f) :
 (execOp a.eval o).run P w = .ok (.enter f (c.args.map a.eval ++ caps)) w := by
 simp only [execOp,ho,resolve,hc,hx,Deferred.ofValue,Sem.run_bind,Sem.run_pure,Result.andThen_ok,invoke,Array.empty_append]
 exact run_callFunc h _
def allK (w : World) (b : Nat) : Prop := b < w.heap.size
structure Zn (E : Env) (st : St) (K : Nat → Prop) : Prop where
 ok : ∀ b,E.ok b → K b
 root : ∀ q b o,(st.r q).isSome → E.ρ q = some (b,o) → K b
theorem Zn.all {ev : Nat → Value} (h : SimE φ w0 L E st ev w) : Zn E st (allK w) :=
 ⟨h.okz,fun q b o h1 h2 => (h.rz q b o h1 h2).2.2⟩
theorem conv1_rep {ev : Nat → Value} (h : SimE φ w0 L E st ev w) {K : Nat → Prop} (hK : Zn E st K) {v : Value} {x y : A} (hv : RV1 φ E st.r w v x) (ht : ∀ k b,Tk1 v x k b → K b) (hc : conv1 st.r x = some y) :
 Rep φ w K v y := by
 have hm : ∀ {v : Value} {x : A},Rep φ w E.ok v x → Rep φ w K v x := fun h => h.mono (fun _ _ => rfl) hK.ok
 unfold conv1 at hc
 split at hc
 ·rename_i q off n
  obtain ⟨R,hR,rfl⟩ := Option.map_eq_some_iff.1 hc
  cases hv with
  | data _ _ h => cases h
  | viewN _ _ _ _ h1 => rw [h1] at hR; cases hR
  | viewE ad q off R' h1 hb hn =>
    rw [List.take_zero]
    exact .slE _ _ _
  | view b o cap q off n R' h1 hb hn hcc h0 hρ hm' =>
    rw [h1] at hR; cases hR
    have hlen : ((R.xs.drop off).take n).length = n := by simp; omega
    have hro := h.roots q R h1
    cases hro with
    | empty z h =>
      simp at hn
      obtain ⟨rfl,rfl⟩ := hn
      exact .slE _ _ _
    | sl b' o' z xs vs hρ' hz hh hv' hr' =>
      rw [hρ] at hρ'; cases hρ'
      have := Rep.sl (φ := φ) (w := w) (ok := K) b (o + off * z) cap z ((xs.drop off).take n) ((vs.drop (off * z)).take (n * z)) (hK.root q b o (by rw [h1]; rfl) hρ)
       (fun y hy => hz y (List.mem_of_mem_drop (List.mem_of_mem_take hy))) (by rw [hlen]; omega) (by
         rw [flat_take (fun x hx => hz x (List.mem_of_mem_drop hx)),flat_drop hz]
         exact ((hh.mono (fun _ _ => rfl) hK.ok).drop _).take _) ((hv'.drop _).take _)
      rw [hlen] at this
      exact this
    | box => cases hb
 ·rename_i k z xs
  simp only [Option.some.injEq] at hc; subst hc
  cases hv with
  | data _ _ h => cases h
  | tokE => exact .slE _ _ _
  | tok b o cap k z xs vs hcc h0 hz hh hv' hr => exact .sl b o cap z xs vs (ht _ _ (.mk _ _ _ _ _ _ h0)) hz hcc (hh.mono (fun _ _ => rfl) hK.ok) hv'
 ·split at hc
  ·rename_i hp
   simp only [Option.some.injEq] at hc; subst hc
   exact (hm (hv.pureC hp)).norm
  ·cases hc
theorem convs_reps {ev : Nat → Value} (h : SimE φ w0 L E st ev w) {K : Nat → Prop} (hK : Zn E st K) : ∀ {vs : List Value} {xs ys : List A},All2 (fun v x => RV1 φ E st.r w v x ∧ ∀ k b,Tk1 v x k b → K b) vs xs → convs st.r xs = some ys →
 Reps φ w K vs ys
 | [],[],ys,_,hc => by simp [convs] at hc; subst hc; exact .nil
 | [],_ :: _,_,h',_ => by have := h'.1; simp at this
 | _ :: _,[],_,h',_ => by have := h'.1; simp at this
 | v :: vs,x :: xs,ys,h',hc => by
   obtain ⟨u,us,he,h1,h2⟩ := h'.uncons
   cases he
   simp only [convs] at hc
   obtain ⟨y,hy,hc⟩ := Option.bind_eq_some_iff.1 hc
   obtain ⟨ys',hys,rfl⟩ := Option.map_eq_some_iff.1 hc
   exact .cons _ _ _ _ (conv1_rep h hK h1.1 h1.2 hy) (convs_reps h hK h2 hys)
theorem toData1_rep {ev : Nat → Value} (h : SimE φ w0 L E st ev w) {K : Nat → Prop} (hK : Zn E st K) {v : Value} {x y : A} (hv : RV φ E st.r w v x) (ht : ∀ k b,Tk v x k b → K b) (hc : toData1 st.r x = some y) :
 Rep φ w K v y := by
 unfold toData1 at hc
 split at hc
 ·rename_i q i c
  obtain ⟨R,hR,hc⟩ := Option.bind_eq_some_iff.1 hc
  obtain ⟨e,he,hc⟩ := Option.bind_eq_some_iff.1 hc
  obtain ⟨cs,hcs,rfl⟩ := Option.map_eq_some_iff.1 hc
  obtain ⟨b,o,hρ,rfl⟩ := hv.loc_inv.loc_at hR
  have hKb : K b := hK.root q b o (by rw [hR]; rfl) hρ
  have hro := h.roots q R hR
  cases hro with
  | empty z h => simp at he
  | sl b' o' z xs vs hρ' hz hh hv' hr' =>
    rw [hρ] at hρ'; cases hρ'
    simp only at he
    have hel := hh.elem hz he
    have hall : All2 (fun v x => RV1 φ E st.r w v x ∧ ∀ k b,Tk1 v x k b → K b) ((vs.drop (i * z)).take e.cells.length) e.cells :=
     (All2.of_reps hel).imp fun v x hr => ⟨.data _ _ hr,fun k b hk => (Tk1.of_rep hr hk).elim⟩
    exact .ptr b (o + i * z) c cs _ hKb (convs_reps h hK hall hcs) ((hv'.drop _).take _)
  | box b' o' z x vs hρ' hz hlt hl hcell hv' hr' =>
    rw [hρ] at hρ'; cases hρ'
    cases i with
    | succ i => simp at he
    | zero =>
      simp at he; subst he
      have hall : All2 (fun v x => RV1 φ E st.r w v x ∧ ∀ k b,Tk1 v x k b → K b) vs x.cells :=
       ⟨hl,fun j v y hv hy => ⟨(hcell j v y hv hy).rv,fun k b hk => ((hcell j v y hv hy).noTk k b hk).elim⟩⟩
      have := Rep.ptr (φ := φ) (w := w) (ok := K) b o c cs vs hKb (convs_reps h hK hall hcs) hv'
      simpa using this
 ·rename_i cs
  obtain ⟨ds,hds,rfl⟩ := Option.map_eq_some_iff.1 hc
  obtain ⟨vs,rfl,hvs⟩ := hv.agg_inv
  refine .agg _ _ (convs_reps h hK ⟨hvs.1,fun j v x hv hx => ⟨hvs.2 j v x hv hx,fun k b hk => ht k b (.agg vs cs j k b v x hv hx hk)⟩⟩ hds)
 ·rename_i hnl hna
  have hv1 : RV1 φ E st.r w v x ∨ ∃ f,x = .fn f [] := by
   cases hv with
   | one _ _ h => exact .inl h
   | tup => simp [conv1,pureC] at hc
   | agg => exact absurd rfl (hna _)
   | fn f vs xs h1 =>
     cases xs with
     | nil => exact .inr ⟨f,rfl⟩
     | cons => simp [conv1,pureC] at hc
  rcases hv1 with hv1 | ⟨f,rfl⟩
  ·exact conv1_rep h hK hv1 (fun k b hk => ht k b (.one _ _ _ _ hk)) hc
  ·simp [conv1,pureC,normC] at hc; subst hc
   exact hv.fn_nil.mono (fun _ _ => rfl) hK.ok
theorem toDatas_reps {ev : Nat → Value} (h : SimE φ w0 L E st ev w) {K : Nat → Prop} (hK : Zn E st K) : ∀ {vs : List Value} {xs ys : List A},All2 (fun v x => RV φ E st.r w v x ∧ ∀ k b,Tk v x k b → K b) vs xs → toDatas st.r xs = some ys →
 Reps φ w K vs ys
 | [],[],ys,_,hc => by simp [toDatas] at hc; subst hc; exact .nil
 | [],_ :: _,_,h',_ => by have := h'.1; simp at this
 | _ :: _,[],_,h',_ => by have := h'.1; simp at this
 | v :: vs,x :: xs,ys,h',hc => by
   obtain ⟨u,us,he,h1,h2⟩ := h'.uncons
   cases he
   simp only [toDatas] at hc
   obtain ⟨y,hy,hc⟩ := Option.bind_eq_some_iff.1 hc
   obtain ⟨ys',hys,rfl⟩ := Option.map_eq_some_iff.1 hc
   exact .cons _ _ _ _ (toData1_rep h hK h1.1 h1.2 hy) (toDatas_reps h hK h2 hys)
theorem caps_reps {ev : Nat → Value} (h : SimE φ w0 L E st ev w) {K : Nat → Prop} (hK : Zn E st K) {vs : List Value} {xs ys : List A} (hv : All2 (RV1 φ E st.r w) vs xs) (hn : xs.any anyTok = false) (hc : toDatas st.r xs = some ys) :
 Reps φ w K vs ys :=
 toDatas_reps h hK ⟨hv.1,fun j v x hv' hx => ⟨.one _ _ (hv.2 j v x hv' hx),fun k b hk => by
  have hx1 : anyTok x = false := by
   have := List.any_eq_false.1 hn x (List.mem_of_getElem? hx)
   simpa using this
  have hr := hv.2 j v x hv' hx
  cases hk with
  | one _ _ _ _ hk => cases hk; simp [anyTok] at hx1
  | tup => cases hr with | data _ _ h => cases h
  | agg us zs j k b v' a' hv1 ha1 hk =>
    generalize hu : Value.agg us.toArray = u at hr
    cases hr with
    | data _ _ h1 => subst hu; exact absurd (.agg us zs j k b v' a' hv1 ha1 hk) (Tk.of_rep h1)⟩⟩ hc
theorem toData_rep {ev : Nat → Value} (h : SimE φ w0 L E st ev w) {K : Nat → Prop} (hK : Zn E st K) {v : Value} {x y : A} (hv : RV φ E st.r w v x) (ht : ∀ k b,Tk v x k b → K b) (hc : toData st.r x = some y) :
 Rep φ w K v y := by
 unfold toData at hc
 split at hc
 ·rename_i f caps
  split at hc
  ·cases hc
  ·rename_i hnt
   obtain ⟨ds,hds,rfl⟩ := Option.map_eq_some_iff.1 hc
   obtain ⟨vs,rfl,hvs⟩ := hv.fn_inv
   exact .fn f ds vs (caps_reps h hK hvs (by simpa using hnt) hds)
 ·exact toData1_rep h hK hv ht hc
end
end Go.Ab
namespace Go.Ab
section
variable {P : Program} {φ : Nat → Nat} {w0 : World} {L : Lent} {E : Env} {st : St} {a : Act} {w w' : World} {r : Nat → Option Root} {ok : Nat → Prop}
theorem Rep.conv1 {v : Value} {x y : A} (h : Rep φ w ok v x) (hc : Ab.conv1 r x = some y) : Rep φ w ok v y := by
 unfold Ab.conv1 at hc
 split at hc
 ·cases h
 ·cases h
 ·split at hc
  ·simp only [Option.some.injEq] at hc; subst hc; exact h.norm
  ·cases hc
theorem Reps.convs : ∀ {vs : List Value} {xs ys : List A},Reps φ w ok vs xs → Ab.convs r xs = some ys → Reps φ w ok vs ys
 | _,_,ys,.nil,hc => by simp [Ab.convs] at hc; subst hc; exact .nil
 | _,_,ys,.cons v x vs xs h t,hc => by
   simp only [Ab.convs] at hc
   obtain ⟨y,hy,hc⟩ := Option.bind_eq_some_iff.1 hc
   obtain ⟨ys',hys,rfl⟩ := Option.map_eq_some_iff.1 hc
   exact .cons _ _ _ _ (h.conv1 hy) (t.convs hys)
theorem Rep.toData1 {v : Value} {x y : A} (h : Rep φ w ok v x) (hc : Ab.toData1 r x = some y) : Rep φ w ok v y := by
 unfold Ab.toData1 at hc
 split at hc
 ·cases h
 ·obtain ⟨ds,hds,rfl⟩ := Option.map_eq_some_iff.1 hc
  cases h with
  | agg vs cs h => exact .agg _ _ (h.convs hds)
 ·exact h.conv1 hc
theorem RV1.free {v : Value} {x y : A} (h : RV1 φ E r w v x) (ho : owned1 x = false) (hc : Ab.toData1 r x = some y) : Rep φ w E.ok v y := by
 cases h with
 | data _ _ h => exact h.toData1 hc
 | any => simp [Ab.toData1,Ab.conv1,Ab.pureC] at hc
 | undef => simp [Ab.toData1,Ab.conv1,Ab.pureC] at hc
 | _ => simp [owned1] at ho
theorem All2.free : ∀ {vs : List Value} {xs ys : List A},All2 (RV1 φ E r w) vs xs → xs.any owned1 = false → toDatas r xs = some ys → Reps φ w E.ok vs ys
 | [],[],ys,_,_,hc => by simp [toDatas] at hc; subst hc; exact .nil
 | [],_ :: _,_,h',_,_ => by have := h'.1; simp at this
 | _ :: _,[],_,h',_,_ => by have := h'.1; simp at this
 | v :: vs,x :: xs,ys,h',ho,hc => by
   obtain ⟨u,us,he,h1,h2⟩ := h'.uncons
   cases he
   simp only [toDatas] at hc
   obtain ⟨y,hy,hc⟩ := Option.bind_eq_some_iff.1 hc
   obtain ⟨ys',hys,rfl⟩ := Option.map_eq_some_iff.1 hc
   simp only [List.any_cons,Bool.or_eq_false_iff] at ho
   exact .cons _ _ _ _ (h1.free ho.1 hy) (h2.free ho.2 hys)
theorem convs_free : ∀ {vs : List Value} {xs ys : List A},All2 (RV1 φ E r w) vs xs → xs.any owned1 = false → Ab.convs r xs = some ys → Reps φ w E.ok vs ys
 | [],[],ys,_,_,hc => by simp [Ab.convs] at hc; subst hc; exact .nil
 | [],_ :: _,_,h',_,_ => by have := h'.1; simp at this
 | _ :: _,[],_,h',_,_ => by have := h'.1; simp at this
 | v :: vs,x :: xs,ys,h',ho,hc => by
   obtain ⟨u,us,he,h1,h2⟩ := h'.uncons
   cases he
   simp only [Ab.convs] at hc
   obtain ⟨y,hy,hc⟩ := Option.bind_eq_some_iff.1 hc
   obtain ⟨ys',hys,rfl⟩ := Option.map_eq_some_iff.1 hc
   simp only [List.any_cons,Bool.or_eq_false_iff] at ho
   refine .cons _ _ _ _ ?_ (convs_free h2 ho.2 hys)
   cases h1 with
   | data _ _ h => exact h.conv1 hy
   | any => simp [Ab.conv1,Ab.pureC] at hy
   | undef => simp [Ab.conv1,Ab.pureC] at hy
   | _ => simp [owned1] at ho
theorem RV.free {v : Value} {x y : A} (h : RV φ E r w v x) (ho : owned x = false) (hc : Ab.toData r x = some y) : Rep φ w E.ok v y := by
 unfold Ab.toData at hc
 split at hc
 ·rename_i f caps
  split at hc
  ·cases hc
  ·obtain ⟨ds,hds,rfl⟩ := Option.map_eq_some_iff.1 hc
   obtain ⟨vs,rfl,hvs⟩ := h.fn_inv
   exact .fn f ds vs (hvs.free ho hds)
 ·rename_i hnf
  by_cases hx : ∃ cs,x = .agg cs
  ·obtain ⟨cs,rfl⟩ := hx
   simp only [Ab.toData1] at hc
   obtain ⟨ds,hds,rfl⟩ := Option.map_eq_some_iff.1 hc
   obtain ⟨vs,rfl,hvs⟩ := h.agg_inv
   exact .agg _ _ (convs_free hvs ho hds)
  ·have ho' : owned1 x = false := by cases x <;> first | exact ho | exact absurd ⟨_,rfl⟩ hx | exact absurd rfl (hnf _ _)
   cases h with
   | one _ _ h => exact h.free ho' hc
   | tup => simp [Ab.toData1,Ab.conv1,Ab.pureC] at hc
   | agg => exact absurd ⟨_,rfl⟩ hx
   | fn => exact absurd rfl (hnf _ _)
mutual
theorem Rep.plain {ok' : Nat → Prop} : ∀ {v : Value} {x : A},Rep φ w ok v x → x.plain = true → Rep φ w ok' v x
 | _,_,.bool b,_ => .bool b
 | _,_,.int k n,_ => .int k n
 | _,_,.str s,_ => .str s
 | _,_,.agg vs cs h,hp => .agg vs cs (Reps.plain h (by simpa [A.plain] using hp))
 | _,_,.nils z,hp => by simp [A.plain] at hp
 | _,_,.cst v h,hp => by simp [A.plain] at hp
 | _,_,.slE ..,hp => by simp [A.plain] at hp
 | _,_,.sl ..,hp => by simp [A.plain] at hp
 | _,_,.ptr ..,hp => by simp [A.plain] at hp
 | _,_,.fn ..,hp => by simp [A.plain] at hp
theorem Reps.plain {ok' : Nat → Prop} : ∀ {vs : List Value} {xs : List A},Reps φ w ok vs xs → A.plains xs = true → Reps φ w ok' vs xs
 | _,_,.nil,_ => .nil
 | _,_,.cons v x vs xs h t,hp => by
   simp only [A.plains,Bool.and_eq_true] at hp
   exact .cons _ _ _ _ (Rep.plain h hp.1) (Reps.plain t hp.2)
end
theorem plains_append : ∀ {xs ys : List A},A.plains xs = true → A.plains ys = true → A.plains (xs ++ ys) = true
 | [],ys,_,h => h
 | x :: xs,ys,h,h' => by
   simp only [A.plains,Bool.and_eq_true,List.cons_append] at h ⊢
   exact ⟨h.1,plains_append h.2 h'⟩
theorem plain_cells {x : A} (h : x.plain = true) : A.plains x.cells = true := by
 cases x <;> simp [A.plain,A.cells,A.plains] at h ⊢ <;> exact h
theorem flat_plains : ∀ {xs : List A},xs.all A.plain = true → A.plains (xs.flatMap A.cells) = true
 | [],_ => rfl
 | x :: xs,h => by
   simp only [List.all_cons,Bool.and_eq_true] at h
   rw [List.flatMap_cons]
   exact plains_append (plain_cells h.1) (flat_plains h.2)
theorem ArgReps.of_reps {K : Nat → Prop} : ∀ {vs : List Value} {xs : List A},Reps φ w K vs xs → ArgReps φ w K vs xs []
 | _,_,.nil => .nil
 | _,_,.cons v x vs xs h t => .cons v x [] vs xs [] (.data v x h) (ArgReps.of_reps t)
theorem ResReps.mem {K : Nat → Prop} : ∀ {vs : List Value} {xs : List A} {bs : List Nat},ResReps φ w K vs xs bs → ∀ {i : Nat} {v : Value} {k z k' b : Nat} {ys : List A},vs[i]? = some v → xs[i]? = some (.tok k z ys) →
 ∀ j,Tk1 v (.tok j z ys) k' b → b ∈ bs
 | _,_,_,.nil,i,_,_,_,_,_,_,h,_,_,_ => by simp at h
 | _,_,_,.cons v x b vs xs bs h t,0,u,k,z,k',b',ys,hu,hx,j,ht => by
   simp at hu hx; subst hu; subst hx
   refine List.mem_append_left _ ?_
   cases h with
   | data _ h => cases h
   | tok _ _ _ ob h hp => cases h with
     | empty => cases ht; contradiction
     | mk => cases ht; simp
 | _,_,_,.cons v x b vs xs bs h t,i + 1,u,k,z,k',b',ys,hu,hx,j,ht =>
   List.mem_append_right _ (t.mem (by simpa using hu) (by simpa using hx) j ht)
theorem ResReps.head_mem {K : Nat → Prop} {v : Value} {k z k' b : Nat} {ys : List A} {bs : List Nat} (h : ResRep φ w K v (.tok k z ys) bs) {j : Nat} (ht : Tk1 v (.tok j z ys) k' b) : b ∈ bs := by
 cases h with
 | data _ h => cases h
 | tok _ _ _ ob h hp => cases h with
   | empty => cases ht; contradiction
   | mk => cases ht; simp
theorem ResReps.sep {K : Nat → Prop} : ∀ {vs : List Value} {xs : List A} {bs : List Nat},ResReps φ w K vs xs bs → bs.Nodup →
 ∀ {i j : Nat} {v u : Value} {k z l y k1 k2 b c : Nat} {ys zs : List A},vs[i]? = some v → xs[i]? = some (.tok k z ys) → vs[j]? = some u → xs[j]? = some (.tok l y zs) → i ≠ j →
   ∀ {p q : Nat},Tk1 v (.tok p z ys) k1 b → Tk1 u (.tok q y zs) k2 c → b ≠ c
 | _,_,_,.nil,_,i,j,_,_,_,_,_,_,_,_,_,_,_,_,h,_,_,_,_,_,_,_,_ => by simp at h
 | _,_,_,.cons v x b vs xs bs h t,hn,i,j,v1,u1,k,z,l,y,k1,k2,b1,c1,ys,zs,hv,hx,hu,hy,hij,p,q,ht1,ht2 => by
   obtain ⟨hn1,hn2,hn3⟩ := List.nodup_append.1 hn
   cases i with
   | zero =>
     cases j with
     | zero => exact absurd rfl hij
     | succ j =>
       simp at hv hx; subst hv; subst hx
       exact hn3 _ (ResReps.head_mem h ht1) _ (t.mem (by simpa using hu) (by simpa using hy) q ht2)
   | succ i =>
     cases j with
     | zero =>
       simp at hu hy; subst hu; subst hy
       exact Ne.symm (hn3 _ (ResReps.head_mem h ht2) _ (t.mem (by simpa using hv) (by simpa using hx) p ht1))
     | succ j =>
       exact t.sep hn2 (by simpa using hv) (by simpa using hx) (by simpa using hu) (by simpa using hy) (by omega) ht1 ht2
theorem retok_length (d : Nat) : ∀ (j : Nat) (l : List A),(retok d j l).length = l.length
 | _,[] => rfl
 | j,.tok k z xs :: l => by simp [retok,retok_length d (j + 1) l]
 | j,.any :: l | j,.undef :: l | j,.bool _ :: l | j,.int _ _ :: l | j,.str _ :: l | j,.agg _ :: l | j,.sl _ _ :: l | j,.nils _ :: l | j,.cst _ :: l | j,.view _ _ _ :: l | j,.loc _ _ _ :: l
 | j,.ptr _ _ :: l | j,.fn _ _ :: l | j,.tup _ :: l | j,.own _ _ :: l | j,.iob _ _ :: l | j,.ios _ _ :: l => by simp [retok,retok_length d (j + 1) l]
theorem retok_get (d : Nat) : ∀ (l : List A) (j i : Nat) {x : A},(retok d j l)[i]? = some x → ∃ y,l[i]? = some y ∧ ((∃ k z xs,y = .tok k z xs ∧ x = .tok (8 * d + (j + i)) z xs) ∨ ((∀ k z xs,y ≠ .tok k z xs) ∧ x = y))
 | [],j,i,x,h => by simp [retok] at h
 | y :: l,j,i,x,h => by
   cases i with
   | zero =>
     refine ⟨y,rfl,?_⟩
     cases y <;> simp [retok] at h <;> subst h <;> first
      | exact .inl ⟨_,_,_,rfl,rfl⟩
      | exact .inr ⟨(fun _ _ _ e => by cases e),rfl⟩
   | succ i =>
     have h' : (retok d (j + 1) l)[i]? = some x := by cases y <;> simpa [retok] using h
     obtain ⟨y',hy,hc⟩ := retok_get d l (j + 1) i h'
     rw [show j + 1 + i = j + (i + 1) from by omega] at hc
     exact ⟨y',by simpa using hy,hc⟩
theorem land_rv {E' : Env} {K' : Nat → Prop} {rvs : List Value} {rs : List A} {rb : List Nat} (hr : ResReps φ w' K' rvs rs rb) (hn : rb.Nodup)
 (hfacts : ∀ b ∈ rb,(¬ E'.ok b ∧ Zone w0 L b ∧ b < w'.heap.size) ∧ ∀ q b' o,(st.r q).isSome → E'.ρ q = some (b',o) → b' ≠ b) (htok : ∀ b ∈ rb,∀ i k b',Tk (a.eval (.tmp i)) (st.t i) k b' → b' ≠ b) (hio : rs.any isIob = false)
 (hd : ∀ x ∈ rs,(∀ v,Rep φ w' K' v x → Rep φ w' E'.ok v x)) (d : Nat) :
 RV φ E' st.r w' (packV rvs) (packR d rs) ∧ TokOk w0 L E' st a w' (packV rvs) (packR d rs) := by
 have hlen : ∀ {vs : List Value} {xs : List A} {bs : List Nat},ResReps φ w' K' vs xs bs → vs.length = xs.length := by
  intro vs xs bs hh
  induction hh with
  | nil => rfl
  | cons _ _ _ _ _ _ _ _ ih => simp [ih]
 have hget : ∀ {vs : List Value} {xs : List A} {bs : List Nat},ResReps φ w' K' vs xs bs → ∀ (i : Nat) v x,vs[i]? = some v → xs[i]? = some x → ∃ c,ResRep φ w' K' v x c := by
  intro vs xs bs hh
  induction hh with
  | nil => intro i v x h; simp at h
  | cons v0 x0 b0 vs xs bs h0 t ih =>
    intro i v x hv hx
    cases i with
    | zero => simp at hv hx; subst hv; subst hx; exact ⟨_,h0⟩
    | succ i => exact ih i v x (by simpa using hv) (by simpa using hx)
 have hall : All2 (RV1 φ E' st.r w') rvs (retok d 0 rs) := by
  refine ⟨by rw [retok_length,hlen hr],fun j v x hv hx => ?_⟩
  obtain ⟨y,hy,hc⟩ := retok_get d rs 0 j hx
  obtain ⟨c,hres⟩ := hget hr j v y hv hy
  rcases hc with ⟨k,z,xs,rfl,rfl⟩ | ⟨hnt,rfl⟩
  ·cases hres with
   | data _ h => cases h
   | tok _ _ _ ob ho hp => cases ho with
     | empty ad => exact .tokE _ _ _
     | mk b o cap z xs vs hcc h0 hz hh hv' hrm => exact .tok b o cap _ z xs vs hcc h0 hz (hh.plain (flat_plains hp)) hv' hrm
  ·cases hres with
   | data _ hh => exact .data _ _ (hd x (List.mem_of_getElem? hy) v hh)
   | tok k z xs => exact absurd rfl (hnt _ _ _)
   | iob => have := List.any_eq_false.1 hio _ (List.mem_of_getElem? hy); simp [isIob] at this
 have htk1 : ∀ (j : Nat) v x k b,rvs[j]? = some v → (retok d 0 rs)[j]? = some x → Tk1 v x k b → b ∈ rb ∧ k = 8 * d + j := by
  intro j v x k b hv hx ht
  obtain ⟨y,hy,hc⟩ := retok_get d rs 0 j hx
  rcases hc with ⟨k0,z,xs,rfl,rfl⟩ | ⟨hnt,rfl⟩
  ·refine ⟨hr.mem hv hy _ ht,?_⟩
   cases ht; simp
  ·cases ht; exact absurd rfl (hnt _ _ _)
 have hsep : ∀ (i j : Nat) v u x y k l b c,rvs[i]? = some v → (retok d 0 rs)[i]? = some x → rvs[j]? = some u → (retok d 0 rs)[j]? = some y → Tk1 v x k b → Tk1 u y l c → k ≠ l → b ≠ c := by
  intro i j v u x y k l b c hv hx hu hy h1 h2 hkl
  have hij : i ≠ j := by
   rintro rfl
   exact hkl ((htk1 i v x k b hv hx h1).2.trans (htk1 i u y l c hu hy h2).2.symm)
  obtain ⟨x',hx',hcx⟩ := retok_get d rs 0 i hx
  obtain ⟨y',hy',hcy⟩ := retok_get d rs 0 j hy
  rcases hcx with ⟨k0,z,xs,rfl,rfl⟩ | ⟨hnt,rfl⟩
  ·rcases hcy with ⟨l0,z',ys,rfl,rfl⟩ | ⟨hnt,rfl⟩
   ·exact hr.sep hn hv hx' hu hy' hij h1 h2
   ·cases h2; exact absurd rfl (hnt _ _ _)
  ·cases h1; exact absurd rfl (hnt _ _ _)
 have hcase : (∃ v x,rvs = [v] ∧ retok d 0 rs = [x] ∧ packV rvs = v ∧ packR d rs = x) ∨ (packV rvs = .tuple rvs.toArray ∧ packR d rs = .tup (retok d 0 rs)) := by
  have hl := hall.1
  unfold packR
  match rvs,hrt : retok d 0 rs,hl with
  | [],[],_ => exact .inr ⟨rfl,rfl⟩
  | [v],[x],_ => exact .inl ⟨v,x,rfl,rfl,rfl,rfl⟩
  | v :: u :: vs,x :: y :: xs,_ => exact .inr ⟨rfl,rfl⟩
  | [],_ :: _,h => simp at h
  | _ :: _,[],h => simp at h
  | [_],_ :: _ :: _,h => simp at h
  | _ :: _ :: _,[_],h => simp at h
 rcases hcase with ⟨v,x,rfl,hrt,hpv,hpr⟩ | ⟨hpv,hpr⟩
 ·rw [hpv,hpr]
  have h1 : RV1 φ E' st.r w' v x := hall.2 0 v x rfl (by rw [hrt]; rfl)
  have hTk : ∀ k b,Tk v x k b → b ∈ rb ∧ k = 8 * d := by
   intro k b ht
   cases ht with
   | one _ _ _ _ ht => simpa using htk1 0 v x k b rfl (by rw [hrt]; rfl) ht
   | tup => cases h1 with | data _ _ h => cases h
   | agg us ys j k b v' a' hv' ha' ht =>
     generalize hu : Value.agg us.toArray = u at h1
     cases h1 with
     | data _ _ h => subst hu; exact absurd (.agg us ys j k b v' a' hv' ha' ht) (Tk.of_rep h)
  refine ⟨.one _ _ h1,⟨fun k b ht => hfacts b (hTk k b ht).1,fun i k k' b b' ht ht' _ => ?_,fun k k' b b' ht ht' hne => absurd ((hTk k b ht).2.trans (hTk k' b' ht').2.symm) hne⟩⟩
  exact fun e => htok b (hTk k b ht).1 i k' b' ht' e.symm
 ·rw [hpv,hpr]
  have hTk : ∀ k b,Tk (.tuple rvs.toArray) (.tup (retok d 0 rs)) k b → ∃ (j : Nat) (v : Value) (x : A),rvs[j]? = some v ∧ (retok d 0 rs)[j]? = some x ∧ Tk1 v x k b := by
   intro k b ht
   generalize hu : Value.tuple rvs.toArray = u at ht
   cases ht with
   | one _ _ _ _ ht => cases ht
   | tup us ys j k b v x hv hx ht => simp at hu; subst hu; exact ⟨j,v,x,hv,hx,ht⟩
  refine ⟨.tup _ _ hall,⟨fun k b ht => ?_,fun i k k' b b' ht ht' _ => ?_,fun k k' b b' ht ht' hne => ?_⟩⟩
  ·obtain ⟨j,v,x,hv,hx,ht⟩ := hTk k b ht
   exact hfacts b (htk1 j v x k b hv hx ht).1
  ·obtain ⟨j,v,x,hv,hx,ht⟩ := hTk k b ht
   exact fun e => htok b (htk1 j v x k b hv hx ht).1 i k' b' ht' e.symm
  ·obtain ⟨j,v,x,hv,hx,ht⟩ := hTk k b ht
   obtain ⟨j',v',x',hv',hx',ht'⟩ := hTk k' b' ht'
   exact hsep j j' v v' x x' k k' b b' hv hx hv' hx' ht ht' hne
theorem args0_free (h : Sim φ w0 L E st a w) : ∀ {os : List Operand} {ys : List Opd} {as : List A},chkOpds φ os ys = true → (ys.map (Opd.v st)).any owned = false → args0 st ys = some as → Reps φ w E.ok (os.map a.eval) as
 | [],[],as,_,_,hc => by simp [args0] at hc; subst hc; exact .nil
 | [],_ :: _,_,h',_,_ => by simp [chkOpds] at h'
 | _ :: _,[],_,h',_,_ => by simp [chkOpds] at h'
 | o :: os,y :: ys,as,h',ho,hc => by
   simp only [chkOpds,Bool.and_eq_true] at h'
   simp only [args0] at hc
   obtain ⟨x,hx,hc⟩ := Option.bind_eq_some_iff.1 hc
   obtain ⟨xs,hxs,rfl⟩ := Option.map_eq_some_iff.1 hc
   simp only [List.map_cons,List.any_cons,Bool.or_eq_false_iff] at ho
   exact .cons _ _ _ _ ((opd_ok h h'.1).1.free ho.1 hx) (args0_free h h'.2 ho.2 hxs)
theorem args0_all (h : Sim φ w0 L E st a w) : ∀ {os : List Operand} {ys : List Opd} {as : List A},chkOpds φ os ys = true → args0 st ys = some as → Reps φ w (allK w) (os.map a.eval) as
 | [],[],as,_,hc => by simp [args0] at hc; subst hc; exact .nil
 | [],_ :: _,_,h',_ => by simp [chkOpds] at h'
 | _ :: _,[],_,h',_ => by simp [chkOpds] at h'
 | o :: os,y :: ys,as,h',hc => by
   simp only [chkOpds,Bool.and_eq_true] at h'
   simp only [args0] at hc
   obtain ⟨x,hx,hc⟩ := Option.bind_eq_some_iff.1 hc
   obtain ⟨xs,hxs,rfl⟩ := Option.map_eq_some_iff.1 hc
   have ho := opd_ok h h'.1
   exact .cons _ _ _ _ (toData_rep h.toSimE (.all h.toSimE) ho.1 (fun k b ht => by obtain ⟨i,hi⟩ := ho.2 k b ht; exact (h.tz i k b hi).1.2.2) hx) (args0_all h h'.2 hxs)
theorem outs_nil {K K' : Nat → Prop} : ∀ {vs : List Value} {as os : List A} {bs : List Nat},Reps φ w K vs as → OutReps φ w' K' vs as os bs → os = [] ∧ bs = []
 | _,_,_,_,.nil,h => by cases h; exact ⟨rfl,rfl⟩
 | _,_,_,_,.cons v x vs as h t,ho => by
   cases ho with
   | data _ _ _ _ _ _ ha t' => exact outs_nil t t'
   | iob => cases h
   | ios => cases h
   | gone => cases h
theorem Sim.put' (h : Sim φ w0 L E st a w) {d : Option Nat} (hd : ∀ i,d = some i → i < a.tmps.size) {v : Value} {x : A} (hv : RV φ E st.r w v x) (ht : TokOk w0 L E st a w v x) :
 Sim φ w0 L E (st.put d x) (a.put d v) w := by
 cases d with
 | none => exact h
 | some d => exact h.put (hd d rfl) hv ht
theorem call_put (h : Sim φ w0 L E st a w) {o : Oper} {c : Call} {x : Operand} (ho : o.op = .call c) (hcx : c.callee = .value x) {g : Nat} {caps : List Value} (hx : a.eval x = .func (.func (φ g)) #[] caps.toArray)
 {cf : CF} (hcf : CfG P φ w0 L cf) {as rs outs : List A} (hr : cf g as = some (rs,outs)) {K : Nat → Prop} (hK : ∀ b,K b → b < w.heap.size) (hKE : ∀ b,E.ok b → K b) (hargs : Reps φ w K (c.args.toList.map a.eval ++ caps) as)
 (hcase : (∀ b,K b → E.ok b) ∨ rs.all resStay = true) (hio : rs.any isIob = false) (hd : ∀ i,o.dst = some i → i < a.tmps.size)
 {next : Act → World → Prop} {Q : Exit → Act → World → Prop} (hn : ∀ E' v w',Sim φ w0 L E' (st.put o.dst (packR (o.dst.getD 0) rs)) (a.put o.dst v) w' → next (a.put o.dst v) w') :
 o.wp P a w next Q := by
 obtain ⟨hent,hok⟩ := hcf.1 g as rs outs hr
 unfold Oper.wp
 rw [run_call ho hcx hx hent,Oper.upon_enter]
 have hvs : (c.args.map a.eval ++ caps.toArray) = (c.args.toList.map a.eval ++ caps).toArray := by apply Array.ext'; simp
 rw [hvs]
 refine (hok w K _ [] (ArgReps.of_reps hargs) List.nodup_nil (fun b hb => by cases hb) hK (hcf.2.at h.toSimE hKE)).mono fun e w' ⟨v,he,hback⟩ => ?_
 subst he
 obtain ⟨rvs,K',rb,ob,rfl,hKK,hK',hres,hout,hnd,hbl⟩ := hback.rest
 obtain ⟨rfl,rfl⟩ := outs_nil hargs hout
 rw [List.append_nil] at hnd hbl
 have hext : Ext w w' := ⟨hback.grow,fun b hb => hback.frame b hb (by simp),hback.env⟩
 let E' : Env := ⟨fun b => E.ok b ∨ (K' b ∧ w.heap.size ≤ b ∧ b < w'.heap.size),E.ρ⟩
 have hle : E.Le E' w w' := ⟨rfl,fun b hb => .inl hb,fun b hb => hb.imp id fun h => h.2⟩
 have hnew : ∀ b ∈ rb,w.heap.size ≤ b := fun b hb => (hbl b hb).2.2.resolve_left (by simp)
 have hlr := land_rv (w0 := w0) (L := L) (st := st) (a := a) (E' := E') hres hnd (fun b hb => by
  obtain ⟨h1,h2,h3⟩ := hbl b hb
  refine ⟨⟨fun hk => ?_,.inl (Nat.le_trans h.grow (hnew b hb)),h2⟩,fun q b' o hq hq' => ?_⟩
  ·rcases hk with h4 | h4
   ·have := h.okz b h4; have := hnew b hb; omega
   ·exact h1 h4.1
  ·have := (h.rz q b' o hq hq').2.2
   have := hnew b hb
   omega) (fun b hb i k b' ht' => by have := hnew b hb; have := (h.tz i k b' ht').1.2.2; omega) hio (fun y hy u hu => by
  rcases hcase with hKE | hst
  ·refine hu.mono (fun _ _ => rfl) fun b hb => ?_
   rcases hK' b hb with h1 | h1
   ·exact .inl (hKE b h1)
   ·exact .inr ⟨hb,h1.resolve_left (by simp)⟩
  ·have hy1 := List.all_eq_true.1 hst y hy
   cases y <;> first
    | exact hu.plain hy1
    | (simp [resStay] at hy1; done)
    | cases hu) (o.dst.getD 0)
 exact hn E' _ w' ((h.ext hext hle).put' hd hlr.1 hlr.2)
end
end Go.Ab
namespace Go.Ab
def szIs (P : Program) (t : TypeId) (z : Nat) : Bool := match P.info? t with | some i => i.size == z | none => false
def chkConv (P : Program) (s d : TypeId) : Conv → Bool
 | .int k => (match P.underlying s,P.underlying d with | some _,some (.int j) => j == k | _,_ => false)
 | .same => (match P.underlying s,P.underlying d with | some .string,some .string => true | _,_ => false)
 | .bytesStr => (match P.underlying s,P.underlying d with
   | some (.slice e),some .string => (match P.underlying e with | some (.int .u8) => true | _ => false)
   | _,_ => false)
 | .strBytes _ => false
def chkBuiltin (P : Program) (φ : Nat → Nat) (b : Builtin) (args : List Operand) (tys : List TypeId) (x : O) : Bool :=
 match b,args,tys,x with
 | .len,[y],[t],.len y' => chkOpd φ y y' && (match P.underlying t with | some (.slice _) => true | _ => false)
 | .len,[y],[t],.lens y' => chkOpd φ y y' && (match P.underlying t with | some .string => true | _ => false)
 | .len,[_],[t],.mv (.c (.int .i64 n)) => (match P.underlying t with | some (.array m _) => n == (m : Int) | _ => false)
 | .max,y :: ys,_,.max (y' :: ys') => chkOpd φ y y' && chkOpds φ ys ys' && !ys'.isEmpty
 | .min,y :: ys,_,.min (y' :: ys') => chkOpd φ y y' && chkOpds φ ys ys' && !ys'.isEmpty
 | .append,[s,y],[t,u],.app z bytes s' y' => chkOpd φ s s' && chkOpd φ y y' &&
    (match P.underlying t,P.underlying u with
     | some (.slice e),some (.slice _) => (match P.info? e with | some i => i.size == z && i.bytes == bytes && (match i.zero with | some v => v.cells.size == z | none => false) | none => false)
     | _,_ => false)
 | _,_,_,_ => false
def chkO (P : Program) (φ : Nat → Nat) (op : Go.Op) (x : O) : Bool :=
 match op,x with
 | .move y,.mv z => chkOpd φ y z
 | .assign y,.asg z => chkOpd φ y z
 | .assign y,.mv z => chkOpd φ y z
 | .pick c a b,.pick c' a' b' => chkOpd φ c c' && chkOpd φ a a' && chkOpd φ b b'
 | .alloc t,.alloc z zero => chkZ P t z zero
 | .box _ y,.box _ y' => chkOpd φ y y'
 | .build t ps,.build zero qs => chkBuild P φ t ps.toList zero qs
 | .buildSlice t n ps,.bsl z zero m qs => n == m && (match P.underlying t with | some (.slice e) => chkZ P e z zero | _ => false) && chkPartsS φ ps.toList qs
 | .load t y,.ld n y' => chkOpd φ y y' && cellN P t n
 | .store t y v,.sto n y' v' => chkOpd φ y y' && chkOpd φ v v' && szIs P t n
 | .nilCheck y,.nilck y' => chkOpd φ y y'
 | .binOp op t y z _,.bin op' y' z' => op == op' && chkOpd φ y y' && chkOpd φ z z'
 | .binOp op t y z _,.eqs neq ks y' z' => op == (if neq then .neq else .eql) && chkOpd φ y y' && chkOpd φ z z' && chkEqs P t ks
 | .binOp op t y z _,.eqb neq y' z' => op == (if neq then .neq else .eql) && chkOpd φ y y' && chkOpd φ z z' && (match P.underlying t with | some .bool => true | _ => false)
 | .unOp op _ y,.un op' y' => op == op' && chkOpd φ y y'
 | .convert s d y,.conv k y' => chkOpd φ y y' && chkConv P s d k
 | .fieldAddr t y f,.fa off y' => chkOpd φ y y' && chkFa P t f off
 | .field t y f,.fld off n y' => chkOpd φ y y' && chkFld P t f off n
 | .indexAddr t y i,.ia z y' i' => chkOpd φ y y' && chkOpd φ i i' && chkIa P t z
 | .indexAddr t y i,.iaa len z y' i' => chkOpd φ y y' && chkOpd φ i i' && chkIaa P t len z
 | .index t y i,.ix y' i' => chkOpd φ y y' && chkOpd φ i i' && (match P.underlying t with | some .string => true | _ => false)
 | .index t y i,.ixa len z n y' i' => chkOpd φ y y' && chkOpd φ i i' && (match P.underlying t with | some (.array m e) => m == len && szIs P e z && cellN P e n | _ => false)
 | .slice t y lo hi none,.slc z y' lo' hi' => chkOpd φ y y' && chkOpt φ lo lo' && chkOpt φ hi hi' && (match P.underlying t with | some (.slice e) => szIs P e z | _ => false)
 | .slice t y lo hi none,.slcs y' lo' hi' => chkOpd φ y y' && chkOpt φ lo lo' && chkOpt φ hi hi' && (match P.underlying t with | some .string => true | _ => false)
 | .makeSlice t l c,.mks z bytes zero l' c' => chkOpd φ l l' && chkOpd φ c c' && (match P.underlying t with
    | some (.slice e) => chkZ P e z zero && (match P.info? e with | some i => i.bytes == bytes | none => false)
    | _ => false)
 | .makeFunc (.func f) first caps,.mkf g caps' => φ g == f && first.size == 0 && chkOpds φ caps.toList caps'
 | .extract y i,.ext y' j => chkOpd φ y y' && i == j
 | .call ⟨.builtin b,args,tys⟩,x => chkBuiltin P φ b args.toList tys.toList x
 | .call ⟨.value f,args,_⟩,.call f' args' => chkOpd φ f f' && chkOpds φ args.toList args'
 | _,_ => false
section
variable {P : Program} {φ : Nat → Nat} {w0 : World} {L : Lent} {E : Env} {st : St} {a : Act} {w w' : World}
theorem andThen_assoc {α β γ : Type} (x : Result α) (f : α → World → Result β) (g : β → World → Result γ) :
 (x.andThen f).andThen g = x.andThen fun a w' => (f a w').andThen g := by cases x <;> rfl
theorem szIs_spec {t : TypeId} {z : Nat} (h : szIs P t z = true) : ∃ i,P.info? t = some i ∧ i.size = z := by
 unfold szIs at h
 split at h
 ·rename_i i hi; exact ⟨i,hi,by simpa using h⟩
 ·cases h
theorem wp_of_val2 (h : Sim φ w0 L E st a w) {o : Oper} {S : Sem Value} {r : A} (hv : Val2 P φ w0 L E st a w S r) (he : (execOp a.eval o).run P w = (S.run P w).andThen fun v w' => .ok (.value v) w')
 (hd : ∀ i,o.dst = some i → i < a.tmps.size) {next : Act → World → Prop} {Q : Exit → Act → World → Prop} (hn : ∀ E' v w',Sim φ w0 L E' (st.put o.dst r) (a.put o.dst v) w' → next (a.put o.dst v) w') :
 o.wp P a w next Q := by
 obtain ⟨v,w',E',hrun,hext,hle,hrv,htk⟩ := hv
 unfold Oper.wp
 rw [he,hrun,Result.andThen_ok,Oper.upon_value]
 exact hn E' v w' ((h.ext hext hle).put' hd hrv htk)
theorem wp_of_val (h : Sim φ w0 L E st a w) {o : Oper} {S : Sem Value} {r : A} (hv : Val P φ E st a w S r) (he : (execOp a.eval o).run P w = (S.run P w).andThen fun v w' => .ok (.value v) w')
 (hd : ∀ i,o.dst = some i → i < a.tmps.size) {next : Act → World → Prop} {Q : Exit → Act → World → Prop} (hn : ∀ E' v w',Sim φ w0 L E' (st.put o.dst r) (a.put o.dst v) w' → next (a.put o.dst v) w') :
 o.wp P a w next Q := wp_of_val2 h (hv.two h) he hd hn
theorem list1 {α : Type} {xs : Array α} {y : α} (h : xs.toList = [y]) : xs = #[y] := by apply Array.ext'; simpa using h
theorem list2 {α : Type} {xs : Array α} {y z : α} (h : xs.toList = [y,z]) : xs = #[y,z] := by apply Array.ext'; simpa using h
theorem run_mkf {o : Oper} {f : FuncId} {first caps : Array Operand} (ho : o.op = .makeFunc (.func f) first caps) (h0 : first.size = 0) :
 (execOp a.eval o).run P w = .ok (.value (.func (.func f) #[] (caps.map a.eval))) w := by
 obtain rfl : first = #[] := Array.eq_empty_of_size_eq_zero h0
 simp [execOp,ho,Instr.makeFunc]
theorem opds_all2 (h : Sim φ w0 L E st a w) : ∀ {os : List Operand} {ys : List Opd},chkOpds φ os ys = true → All2 (fun v x => RV φ E st.r w v x ∧ Copy st a v x) (os.map a.eval) (ys.map (Opd.v st))
 | [],[],_ => .nil
 | [],_ :: _,h' => by simp [chkOpds] at h'
 | _ :: _,[],h' => by simp [chkOpds] at h'
 | o :: os,y :: ys,h' => by
   simp only [chkOpds,Bool.and_eq_true] at h'
   exact .cons (opd_ok h h'.1) (opds_all2 h h'.2)
theorem evalV_sound {cf : CF} (hcf : CfG P φ w0 L cf) {io : Nat → List Bool} (h : Sim φ w0 L E st a w) {o : Oper} {x : O} (hc : chkO P φ o.op x = true) (hd : ∀ i,o.dst = some i → i < a.tmps.size) {r : A}
 (he : evalV cf io o.dst st x = some r) {next : Act → World → Prop} {Q : Exit → Act → World → Prop}
 (hn : ∀ E' v w',Sim φ w0 L E' (st.put o.dst r) (a.put o.dst v) w' → next (a.put o.dst v) w') : o.wp P a w next Q := by
 obtain ⟨dst,op,ty,pos,after,guard⟩ := o
 simp only at hc hd he hn
 unfold chkO at hc
 split at hc <;> (try (cases hc; done)) <;> (try simp only [Bool.and_eq_true] at hc) <;> simp only [evalV] at he
 ·
  simp only [Option.some.injEq] at he; subst he
  exact wp_of_val h (.pure (opd_ok h hc)) (by simp [execOp]) hd hn
 ·
  have : Val P φ E st a w (Pure.pure (a.eval _)) r := .pure (by
   split at he <;> (try (cases he; done)) <;> simp only [Option.some.injEq] at he <;> subst he <;> exact opd_ok h hc)
  exact wp_of_val h this (by simp [execOp]) hd hn
 ·
  simp only [Option.some.injEq] at he; subst he
  exact wp_of_val h (.pure (opd_ok h hc)) (by simp [execOp]) hd hn
 ·
  split at he
  ·rename_i t ht
   simp only [Option.some.injEq] at he; subst he
   exact wp_of_val h (val_pick h hc.1.1 hc.1.2 hc.2 ht) (by simp [execOp,andThen_assoc]) hd hn
  ·cases he
 ·cases he
 ·cases he
 ·
  exact wp_of_val h (val_build h hc he) (by simp [execOp]) hd hn
 ·
  split at he
  ·rename_i d
   obtain ⟨⟨hnm,hz⟩,hp⟩ := hc
   simp only [beq_iff_eq] at hnm; subst hnm
   split at hz
   ·rename_i e ht
    exact wp_of_val2 h (val_bsl h ht hz hp he) (by simp [execOp]) hd hn
   ·cases hz
  ·cases he
 ·
  exact wp_of_val h (val_ld h hc.1 hc.2 he) (by simp [execOp]) hd hn
 ·cases he
 ·
  rename_i y y'
  obtain ⟨v,hrun,hrv,hcp⟩ := val_nilck (o := ⟨dst,.nilCheck y,ty,pos,after,guard⟩) h hc rfl he
  unfold Oper.wp
  rw [hrun,Oper.upon_value]
  exact hn E v w (h.put' hd hrv (hcp.tok h))
 ·
  obtain ⟨⟨hop,h1⟩,h2⟩ := hc
  simp only [beq_iff_eq] at hop; subst hop
  exact wp_of_val h (val_bin (t := _) (u := ty) h h1 h2 he) (by simp only [execOp,Sem.run_bind,andThen_assoc]; rfl) hd hn
 ·obtain ⟨⟨⟨hop,h1⟩,h2⟩,h3⟩ := hc
  simp only [beq_iff_eq] at hop
  exact wp_of_val h (val_eqs h hop h1 h2 h3 he) (by simp [execOp,andThen_assoc]) hd hn
 ·obtain ⟨⟨⟨hop,h1⟩,h2⟩,h3⟩ := hc
  simp only [beq_iff_eq] at hop
  split at h3
  ·rename_i ht; exact wp_of_val h (val_eqb h hop h1 h2 ht he) (by simp [execOp,andThen_assoc]) hd hn
  ·cases h3
 ·obtain ⟨hop,h1⟩ := hc
  simp only [beq_iff_eq] at hop; subst hop
  exact wp_of_val h (val_un h h1 he) (by simp [execOp]) hd hn
 ·
  rename_i s d y k y'
  obtain ⟨h1,h2⟩ := hc
  cases k with
  | int k =>
    simp only [chkConv] at h2
    split at h2
    ·rename_i ds j hs hdd
     simp only [beq_iff_eq] at h2; subst h2
     have he' : (match y'.v st with | .int _ n => some (A.int j (j.wrap n)) | _ => none) = some r := by
      cases hv : y'.v st <;> rw [hv] at he <;> first | exact he | cases he
     exact wp_of_val h (val_conv_int h h1 hs hdd he') (by simp [execOp]) hd hn
    ·cases h2
  | same =>
    simp only [chkConv] at h2
    split at h2
    ·rename_i hs hdd
     have he' : (match y'.v st with | .str n => some (A.str n) | _ => none) = some r := by
      cases hv : y'.v st <;> rw [hv] at he <;> first | exact he | cases he
     exact wp_of_val h (val_conv_same h h1 hs hdd he') (by simp [execOp]) hd hn
    ·cases h2
  | bytesStr =>
    simp only [chkConv] at h2
    split at h2
    ·rename_i e hs hdd
     split at h2
     ·rename_i hee
      exact wp_of_val h (val_conv_bytes h h1 hs hee hdd he) (by simp [execOp]) hd hn
     ·cases h2
    ·cases h2
  | strBytes z => simp [chkConv] at h2
 ·exact wp_of_val h (val_fa h hc.1 hc.2 he) (by simp [execOp]) hd hn
 ·exact wp_of_val h (val_fld h hc.1 hc.2 he) (by simp [execOp]) hd hn
 ·exact wp_of_val h (val_ia h hc.1.1 hc.1.2 hc.2 he) (by simp [execOp]) hd hn
 ·exact wp_of_val h (val_iaa h hc.1.1 hc.1.2 hc.2 he) (by simp [execOp]) hd hn
 ·obtain ⟨⟨h1,h2⟩,h3⟩ := hc
  split at h3
  ·rename_i ht; exact wp_of_val h (val_ix h h1 h2 ht he) (by simp [execOp]) hd hn
  ·cases h3
 ·obtain ⟨⟨h1,h2⟩,h3⟩ := hc
  split at h3
  ·rename_i m e ht
   simp only [Bool.and_eq_true,beq_iff_eq] at h3
   obtain ⟨⟨rfl,h4⟩,h5⟩ := h3
   obtain ⟨i,hi,hz⟩ := szIs_spec h4
   exact wp_of_val h (val_ixa h h1 h2 ht hi hz h5 he) (by simp [execOp]) hd hn
  ·cases h3
 ·obtain ⟨⟨⟨h1,h2⟩,h3⟩,h4⟩ := hc
  split at h4
  ·rename_i e ht
   obtain ⟨i,hi,hz⟩ := szIs_spec h4
   exact wp_of_val h (val_slc h h1 h2 h3 ht hi hz he) (by simp [execOp]) hd hn
  ·cases h4
 ·obtain ⟨⟨⟨h1,h2⟩,h3⟩,h4⟩ := hc
  split at h4
  ·rename_i ht; exact wp_of_val h (val_slcs h h1 h2 h3 ht he) (by simp [execOp]) hd hn
  ·cases h4
 ·obtain ⟨⟨h1,h2⟩,h3⟩ := hc
  split at he
  ·rename_i d n m e1 e2
   split at h3
   ·rename_i e ht
    simp only [Bool.and_eq_true] at h3
    obtain ⟨h4,h5⟩ := h3
    refine wp_of_val2 h (val_mks (d := d) (bytes := _) h h1 h2 ht h4 (fun i hi => ?_) (by rw [e1,e2]; exact he)) (by simp [execOp]) hd hn
    rw [hi] at h5
    simpa using h5
   ·cases h3
  ·cases he
 ·
  rename_i f first caps g caps'
  obtain ⟨⟨h1,h2⟩,h3⟩ := hc
  simp only [beq_iff_eq] at h1 h2; subst h1
  split at he
  ·rename_i hs
   simp only [Option.some.injEq] at he; subst he
   unfold Oper.wp
   rw [run_mkf (o := ⟨dst,.makeFunc (.func (φ g)) first caps,ty,pos,after,guard⟩) rfl h2,Oper.upon_value]
   have hall := opds_all2 h h3
   have hmap : caps.map a.eval = (caps.toList.map a.eval).toArray := by apply Array.ext'; simp
   rw [hmap]
   have hrv : RV φ E st.r w (.func (.func (φ g)) #[] (caps.toList.map a.eval).toArray) (.fn g (caps'.map (Opd.v st))) := by
    refine .fn g _ _ ⟨hall.1,fun j v x hv hx => ?_⟩ (fun x hx => by
     have := List.all_eq_true.1 hs x hx
     simp only [Bool.and_eq_true,Bool.not_eq_true'] at this
     exact this.2)
    have hx1 := List.all_eq_true.1 hs x (List.mem_of_getElem? hx)
    simp only [Bool.and_eq_true] at hx1
    have hr := (hall.2 j v x hv hx).1
    by_cases hxa : ∃ cs,x = .agg cs
    ·obtain ⟨cs,rfl⟩ := hxa
     simp [solid,pureC] at hx1
    ·exact (solid_one hr hx1.1 fun cs e => hxa ⟨cs,e⟩).1
   exact hn E _ w (h.put' hd hrv ((Copy.scalar noTk_fn).tok h))
  ·cases he
 ·obtain ⟨h1,h2⟩ := hc
  simp only [beq_iff_eq] at h2; subst h2
  exact wp_of_val h (val_ext h h1 he) (by simp [execOp]) hd hn
 ·
  rename_i b args tys x'
  unfold chkBuiltin at hc
  split at hc <;> (try (cases hc; done)) <;> (try simp only [Bool.and_eq_true] at hc) <;> (try simp only [evalV] at he)
  ·rename_i hargs htys
   rw [list1 hargs,list1 htys]
   obtain ⟨h1,h2⟩ := hc
   obtain ⟨n,hn1,rfl⟩ := Option.map_eq_some_iff.1 he
   split at h2
   ·rename_i e ht
    exact wp_of_val h (val_len (ty := ty) h h1 ht hn1) (by simp [execOp,resolve,invoke,builtin]) hd hn
   ·cases h2
  ·rename_i hargs htys
   rw [list1 hargs,list1 htys]
   obtain ⟨h1,h2⟩ := hc
   split at h2
   ·rename_i ht
    exact wp_of_val h (val_lens (ty := ty) h h1 ht he) (by simp [execOp,resolve,invoke,builtin]) hd hn
   ·cases h2
  ·rename_i hargs htys
   rw [list1 hargs,list1 htys]
   simp only [Opd.v,Option.some.injEq] at he; subst he
   split at hc
   ·rename_i m e ht
    simp only [beq_iff_eq] at hc; subst hc
    refine wp_of_val (S := Builtin.len_ #[_] ty #[a.eval _]) h (val_scalar (v := .int .i64 m) ?_ (.int _ _)) (by simp [execOp,resolve,invoke,builtin]; rfl) hd hn
    simp [Builtin.len_,run_underlying ht,goInt]
   ·cases hc
  ·rename_i hargs
   obtain ⟨⟨h1,h2⟩,h3⟩ := hc
   simp only [List.map_cons] at he
   have hne : ∀ l : List Opd,(!l.isEmpty) = true → l ≠ [] := fun l hl e => by subst e; simp at hl
   refine wp_of_val h (val_fold (g := Builtin.max2) max2_ok h h1 h2 (hne _ h3) he) ?_ hd hn
   simp [execOp,resolve,invoke,builtin,Builtin.max_,hargs]
  ·rename_i hargs
   obtain ⟨⟨h1,h2⟩,h3⟩ := hc
   simp only [List.map_cons] at he
   have hne : ∀ l : List Opd,(!l.isEmpty) = true → l ≠ [] := fun l hl e => by subst e; simp at hl
   refine wp_of_val h (val_fold (g := Builtin.min2) min2_ok h h1 h2 (hne _ h3) he) ?_ hd hn
   simp [execOp,resolve,invoke,builtin,Builtin.min_,hargs]
  ·cases he
 ·
  rename_i f args tys f' args'
  obtain ⟨h1,h2⟩ := hc
  have hf := opd_ok h h1
  split at he
  ·rename_i g caps hfv
   rw [hfv] at hf
   obtain ⟨cv,hev,hcaps⟩ := hf.1.fn_inv
   split at he
   ·cases he
   ·obtain ⟨as,has,he⟩ := Option.bind_eq_some_iff.1 he
    obtain ⟨cs,hcs,he⟩ := Option.bind_eq_some_iff.1 he
    split at hcs
    ·cases hcs
    ·rename_i hnt
     have hnt' : caps.any anyTok = false := by simpa using hnt
     obtain ⟨⟨rs,outs⟩,hr,he⟩ := Option.bind_eq_some_iff.1 he
     simp only at he
     split at he
     ·rename_i hcond
      simp only [Option.some.injEq] at he; subst he
      simp only [Bool.and_eq_true,Bool.or_eq_true,Bool.not_eq_true',Bool.or_eq_false_iff] at hcond
      obtain ⟨hcond,hio⟩ := hcond
      rcases hcond with hst | ⟨ho1,ho2⟩
      ·exact call_put (o := ⟨dst,.call ⟨.value f,args,tys⟩,ty,pos,after,guard⟩) h rfl rfl hev hcf hr (K := allK w) (fun _ hb => hb) h.okz
        ((args0_all h h2 has).append (caps_reps h.toSimE (.all h.toSimE) hcaps hnt' hcs)) (.inr hst) hio hd hn
      ·exact call_put (o := ⟨dst,.call ⟨.value f,args,tys⟩,ty,pos,after,guard⟩) h rfl rfl hev hcf hr (K := E.ok) h.okz (fun _ hb => hb)
        ((args0_free h h2 ho1 has).append (hcaps.free ho2 hcs)) (.inl fun _ hb => hb) hio hd hn
     ·cases he
  ·cases he
end
end Go.Ab
namespace Go.Ab
section
variable {P : Program} {φ : Nat → Nat} {w0 : World} {L : Lent} {E E' : Env} {st st' : St} {ev ev' : Nat → Value} {w w' : World} {r r' : Nat → Option Root}
theorem RV1.weak (hok : ∀ b,E.ok b → E'.ok b) (hr : ∀ q R,r' q = some R → r q = some R ∧ E'.ρ q = E.ρ q) {v : Value} {x : A} (h : RV1 φ E r w v x) : RV1 φ E' r' w v x := by
 have hnone : ∀ q,r q = none → r' q = none := fun q hq => by
  cases e : r' q with
  | none => rfl
  | some R => have := (hr q R e).1; rw [hq] at this; cases this
 have hsome : ∀ q R,r q = some R → r' q = none ∨ (r' q = some R ∧ E'.ρ q = E.ρ q) := fun q R hq => by
  cases e : r' q with
  | none => exact .inl rfl
  | some R' => have := hr q R' e; rw [hq] at this; obtain ⟨h1,h2⟩ := this; cases h1; exact .inr ⟨rfl,h2⟩
 cases h with
 | any => exact .any _
 | undef => exact .undef
 | data _ _ h => exact .data _ _ (h.mono (fun _ _ => rfl) hok)
 | tokE => exact .tokE _ _ _
 | tok b o cap k z xs vs hc h0 hz h hv hr => exact .tok b o cap k z xs vs hc h0 hz (h.mono (fun _ _ => rfl) hok) hv hr
 | viewN _ q off n h => exact .viewN _ _ _ _ (hnone _ h)
 | viewE ad q off R h hb hn =>
   rcases hsome q R h with h1 | ⟨h1,h2⟩
   ·exact .viewN _ _ _ _ h1
   ·exact .viewE ad q off R h1 hb hn
 | view b o cap q off n R h hb hn hc h0 hq hr =>
   rcases hsome q R h with h1 | ⟨h1,h2⟩
   ·exact .viewN _ _ _ _ h1
   ·exact .view b o cap q off n R h1 hb hn hc h0 (h2.trans hq) hr
 | locN _ q i c h => exact .locN _ _ _ _ (hnone _ h)
 | loc b o q i c R h hq =>
   rcases hsome q R h with h1 | ⟨h1,h2⟩
   ·exact .locN _ _ _ _ h1
   ·exact .loc b o q i c R h1 (h2.trans hq)
theorem CellOk.weak (hok : ∀ b,E.ok b → E'.ok b) (hr : ∀ q R,r' q = some R → r q = some R ∧ E'.ρ q = E.ρ q) {q c : Nat} {v : Value} {x : A} (h : CellOk φ E r w q c v x) : CellOk φ E' r' w q c v x := by
 cases h with
 | data _ h ha => exact .data _ _ (h.mono (fun _ _ => rfl) hok) ha
 | any h => exact .any _ h
 | view off n hc h hv => exact .view _ _ _ hc (h.weak hok hr) hv
theorem RootOk.weak (hok : ∀ b,E.ok b → E'.ok b) (hr : ∀ q R,r' q = some R → r q = some R ∧ E'.ρ q = E.ρ q) {q : Nat} {R : Root} (hq : r' q = some R) (h : RootOk φ E r w q R) : RootOk φ E' r' w q R := by
 have hρ := (hr q R hq).2
 cases h with
 | empty z h => exact .empty z (hρ.trans h)
 | sl b o z xs vs hq' hz h hv hrm => exact .sl b o z xs vs (hρ.trans hq') hz (h.mono (fun _ _ => rfl) hok) hv hrm
 | box b o z x vs hq' hz hlt hl h hv hrm => exact .box b o z x vs (hρ.trans hq') hz hlt hl (fun c v a h1 h2 => (h c v a h1 h2).weak hok hr) hv hrm
theorem SimE.giveUp (h : SimE φ w0 L E st ev w) {N T : Nat → Prop} {ok' : Nat → Prop} (h1 : ∀ b,E.ok b → ok' b)
 (h2 : ∀ b,ok' b → E.ok b ∨ (∃ q o,N q ∧ (st.r q).isSome ∧ E.ρ q = some (b,o)) ∨ (∃ i k,T k ∧ Tk (ev i) (st.t i) k b))
 (hr : ∀ q R,st'.r q = some R → st.r q = some R ∧ ¬ N q)
 (hs : ∀ i,RV φ ⟨ok',E.ρ⟩ st'.r w (ev' i) (st'.t i))
 (ht : ∀ i k b,Tk (ev' i) (st'.t i) k b → ¬ T k ∧ ∃ j,Tk (ev j) (st.t j) k b) : SimE φ w0 L ⟨ok',E.ρ⟩ st' ev' w := by
 have hsm : ∀ q,(st'.r q).isSome → (st.r q).isSome ∧ ¬ N q := fun q hq => by
  obtain ⟨R,hR⟩ := Option.isSome_iff_exists.1 hq
  exact ⟨by rw [(hr q R hR).1]; rfl,(hr q R hR).2⟩
 exact {
  slots := hs
  roots := fun q R hq => RootOk.weak (E := E) (E' := ⟨ok',E.ρ⟩) (r := st.r) h1 (fun q R hq => ⟨(hr q R hq).1,rfl⟩) hq (h.roots q R (hr q R hq).1)
  inj := fun q q' b o b' o' a1 a2 a3 a4 => h.inj q q' b o b' o' (hsm q a1).1 (hsm q' a2).1 a3 a4
  rz := fun q b o a1 a2 => by
   have a3 := hsm q a1
   have a4 := h.rz q b o a3.1 a2
   refine ⟨fun hk => ?_,a4.2⟩
   rcases h2 b hk with h3 | ⟨q',o',n1,n2,n3⟩ | ⟨i,k,n1,n2⟩
   ·exact a4.1 h3
   ·exact h.inj q q' b o b o' a3.1 n2 a2 n3 (fun e => a3.2 (e ▸ n1)) rfl
   ·exact (h.tz i k b n2).2 q b o a3.1 a2 rfl
  tz := fun i k b a1 => by
   obtain ⟨a2,j,a3⟩ := ht i k b a1
   have a4 := h.tz j k b a3
   refine ⟨⟨fun hk => ?_,a4.1.2⟩,fun q b' o a5 a6 => a4.2 q b' o (hsm q a5).1 a6⟩
   rcases h2 b hk with h3 | ⟨q',o',n1,n2,n3⟩ | ⟨i',k',n1,n2⟩
   ·exact a4.1.1 h3
   ·exact a4.2 q' b o' n2 n3 rfl
   ·exact h.td j i' k k' b b a3 n2 (fun e => a2 (e ▸ n1)) rfl
  td := fun i j k k' b b' a1 a2 a3 => by
   obtain ⟨_,i',a4⟩ := ht i k b a1
   obtain ⟨_,j',a5⟩ := ht j k' b' a2
   exact h.td i' j' k k' b b' a4 a5 a3
  okz := fun b hk => by
   rcases h2 b hk with h3 | ⟨q',o',n1,n2,n3⟩ | ⟨i,k,n1,n2⟩
   ·exact h.okz b h3
   ·exact (h.rz q' b o' n2 n3).2.2
   ·exact (h.tz i k b n2).1.2.2
  grow := h.grow,frame := h.frame,env := h.env,fr := h.fr,room := h.room
  lent := fun i p a1 a2 => h.lent i p a1 (hsm i a2).1
  okU := fun b hb => h1 b (h.okU b hb)
  okL := fun b hk => by
   rcases h2 b hk with h3 | ⟨q',o',n1,n2,n3⟩ | ⟨i,k,n1,n2⟩
   ·exact h.okL b h3
   ·exact .inr (h.rz q' b o' n2 n3).2.1
   ·exact .inr (h.tz i k b n2).1.2.1 }
theorem SimE.weak (h : SimE φ w0 L E st ev w) (hr : ∀ q R,st'.r q = some R → st.r q = some R) (hs : ∀ i,RV φ E st'.r w (ev' i) (st'.t i))
 (ht : ∀ i k b,Tk (ev' i) (st'.t i) k b → ∃ j,Tk (ev j) (st.t j) k b) : SimE φ w0 L E st' ev' w :=
 h.giveUp (N := fun _ => False) (T := fun _ => False) (ok' := E.ok) (fun _ h => h) (fun b h => .inl h) (fun q R hq => ⟨hr q R hq,id⟩) hs (fun i k b a => ⟨id,ht i k b a⟩)
structure Fd (f : A → A) (G : Nat → Prop) : Prop where
 tk : ∀ v x k b,Tk1 v (f x) k b → Tk1 v x k b ∧ G k
 na : ∀ x,(∀ cs,x ≠ .agg cs) → (∀ cs,x ≠ .tup cs) → (∀ cs,f x ≠ .agg cs) ∧ (∀ cs,f x ≠ .tup cs)
 nt : ∀ x,anyTok x = false → anyTok (f x) = false
theorem Tk.comps {f : A → A} {G : Nat → Prop} (hf : Fd f G) {v : Value} {x : A} {k b : Nat} (h : Tk v (Ab.comps f x) k b) : Tk v x k b ∧ G k := by
 have one : (∀ cs,x ≠ .agg cs) → (∀ cs,x ≠ .tup cs) → Tk v (f x) k b → Tk v x k b ∧ G k := fun h1 h2 h => by
  have h3 := hf.na x h1 h2
  generalize hy : f x = y at h
  cases h with
  | one _ _ _ _ h => subst hy; exact ⟨.one _ _ _ _ (hf.tk _ _ _ _ h).1,(hf.tk _ _ _ _ h).2⟩
  | tup => exact absurd hy (h3.2 _)
  | agg => exact absurd hy (h3.1 _)
 cases x with
 | agg xs =>
   simp only [Ab.comps] at h
   generalize hy : A.agg (xs.map f) = y at h
   cases h with
   | one _ _ _ _ h => subst hy; cases h
   | tup => cases hy
   | agg vs ys j k b v a hv ha ht =>
     cases hy
     simp only [List.getElem?_map,Option.map_eq_some_iff] at ha
     obtain ⟨c,hc,rfl⟩ := ha
     exact ⟨.agg vs xs j k b v c hv hc (hf.tk _ _ _ _ ht).1,(hf.tk _ _ _ _ ht).2⟩
 | tup xs =>
   simp only [Ab.comps] at h
   generalize hy : A.tup (xs.map f) = y at h
   cases h with
   | one _ _ _ _ h => subst hy; cases h
   | agg => cases hy
   | tup vs ys j k b v a hv ha ht =>
     cases hy
     simp only [List.getElem?_map,Option.map_eq_some_iff] at ha
     obtain ⟨c,hc,rfl⟩ := ha
     exact ⟨.tup vs xs j k b v c hv hc (hf.tk _ _ _ _ ht).1,(hf.tk _ _ _ _ ht).2⟩
 | fn g xs =>
   simp only [Ab.comps] at h
   cases h with
   | one _ _ _ _ h => cases h
 | _ => exact one (fun _ h => by cases h) (fun _ h => by cases h) h
theorem RV.comps' {f : A → A} (hnt : ∀ x,anyTok x = false → anyTok (f x) = false) {v : Value} {x : A} (hf : ∀ u y,(∀ k b,Tk1 u y k b → Tk v x k b) → RV1 φ E r w u y → RV1 φ E' r' w' u (f y)) (h : RV φ E r w v x) :
 RV φ E' r' w' v (Ab.comps f x) := by
 cases x with
 | agg xs =>
   obtain ⟨vs,rfl,h1⟩ := h.agg_inv
   refine .agg _ _ ⟨by simp [h1.1],fun j u y hu hy => ?_⟩
   simp only [List.getElem?_map,Option.map_eq_some_iff] at hy
   obtain ⟨z,hz,rfl⟩ := hy
   exact hf u z (fun k b ht => .agg vs xs j k b u z hu hz ht) (h1.2 j u z hu hz)
 | tup xs =>
   obtain ⟨vs,rfl,h1⟩ := h.tup_inv
   refine .tup _ _ ⟨by simp [h1.1],fun j u y hu hy => ?_⟩
   simp only [List.getElem?_map,Option.map_eq_some_iff] at hy
   obtain ⟨z,hz,rfl⟩ := hy
   exact hf u z (fun k b ht => .tup vs xs j k b u z hu hz ht) (h1.2 j u z hu hz)
 | fn g xs =>
   obtain ⟨vs,rfl,h1,h2⟩ := h.fn_inv'
   refine .fn _ _ _ ⟨by simp [h1.1],fun j u y hu hy => ?_⟩ (fun x hx => by obtain ⟨y,hy,rfl⟩ := List.mem_map.1 hx; exact hnt y (h2 y hy))
   simp only [List.getElem?_map,Option.map_eq_some_iff] at hy
   obtain ⟨z,hz,rfl⟩ := hy
   refine hf u z (fun k b ht => ?_) (h1.2 j u z hu hz)
   have := h2 z (List.mem_of_getElem? hz)
   cases ht; cases this
 | _ => cases h with | one _ _ h => exact .one _ _ (hf _ _ (fun k b ht => .one _ _ _ _ ht) h)
theorem RV.comps {f : A → A} (hnt : ∀ x,anyTok x = false → anyTok (f x) = false) (hf : ∀ v x,RV1 φ E r w v x → RV1 φ E' r' w' v (f x)) {v : Value} {x : A} (h : RV φ E r w v x) : RV φ E' r' w' v (Ab.comps f x) :=
 h.comps' hnt fun u y _ => hf u y
theorem fd_kill (q : Nat) : Fd (kill1 q) (fun _ => True) where
 tk := fun v x k b h => by
  unfold kill1 at h; split at h
  ·cases h
  ·exact ⟨h,trivial⟩
 na := fun x h1 h2 => by unfold kill1; split <;> first | exact ⟨h1,h2⟩ | exact ⟨(fun _ h => by cases h),(fun _ h => by cases h)⟩
 nt := fun x h => by unfold kill1; split <;> first | exact h | rfl
theorem fd_killTok (q : Nat) : Fd (killTok1 q) (fun k => k ≠ q) where
 tk := fun v x k b h => by
  unfold killTok1 at h; split at h
  ·cases h
  ·rename_i hn
   refine ⟨h,fun e => hn ?_⟩
   cases h; simp [isTok1,e]
 na := fun x h1 h2 => by unfold killTok1; split <;> first | exact ⟨h1,h2⟩ | exact ⟨(fun _ h => by cases h),(fun _ h => by cases h)⟩
 nt := fun x h => by unfold killTok1; split <;> first | exact h | rfl
theorem fd_unTok (q : Nat) : Fd (unTok1 q) (fun k => k ≠ q) where
 tk := fun v x k b h => by
  unfold unTok1 at h; split at h
  ·split at h
   ·cases h
   ·rename_i hn; refine ⟨h,fun e => hn ?_⟩; cases h; exact e
  ·rename_i hn; cases h; exact absurd rfl (hn _ _ _)
 na := fun x h1 h2 => by unfold unTok1; split <;> (try split) <;> first | exact ⟨h1,h2⟩ | exact ⟨(fun _ h => by cases h),(fun _ h => by cases h)⟩
 nt := fun x h => by unfold unTok1; split <;> (try split) <;> first | exact h | rfl
theorem fd_dropTok (ks : List Nat) : Fd (dropTok1 ks) (fun k => k ∉ ks) where
 tk := fun v x k b h => by
  unfold dropTok1 at h; split at h
  ·split at h
   ·cases h
   ·rename_i hn; refine ⟨h,fun e => hn ?_⟩; cases h; simpa using e
  ·rename_i hn; cases h; exact absurd rfl (hn _ _ _)
 na := fun x h1 h2 => by unfold dropTok1; split <;> (try split) <;> first | exact ⟨h1,h2⟩ | exact ⟨(fun _ h => by cases h),(fun _ h => by cases h)⟩
 nt := fun x h => by unfold dropTok1; split <;> (try split) <;> first | exact h | rfl
theorem fd_unRoot (q : Nat) (R : Root) : Fd (unRoot1 q R) (fun _ => True) where
 tk := fun v x k b h => by
  unfold unRoot1 at h; split at h
  ·split at h
   ·cases h
   ·exact ⟨h,trivial⟩
  ·split at h
   ·cases h
   ·exact ⟨h,trivial⟩
  ·exact ⟨h,trivial⟩
 na := fun x h1 h2 => by unfold unRoot1; split <;> (try split) <;> first | exact ⟨h1,h2⟩ | exact ⟨(fun _ h => by cases h),(fun _ h => by cases h)⟩
 nt := fun x h => by unfold unRoot1; split <;> (try split) <;> first | exact h | rfl
theorem SimE.map (h : SimE φ w0 L E st ev w) {f : A → A} {G : Nat → Prop} (hf : Fd f G) (hv : ∀ v x,RV1 φ E st.r w v x → RV1 φ E st.r w v (f x)) : SimE φ w0 L E (st.map (comps f)) ev w :=
 h.weak (fun _ _ h => h) (fun i => (h.slots i).comps hf.nt hv) (fun i k b ht => ⟨i,(Tk.comps hf ht).1⟩)
theorem SimE.kill (h : SimE φ w0 L E st ev w) (q : Nat) : SimE φ w0 L E (st.kill q) ev w :=
 h.map (fd_kill q) fun v x hx => by unfold kill1; split <;> first | exact .any _ | exact hx
theorem SimE.killTok (h : SimE φ w0 L E st ev w) (q : Nat) : SimE φ w0 L E (st.killTok q) ev w :=
 h.map (fd_killTok q) fun v x hx => by unfold killTok1; split <;> first | exact .any _ | exact hx
theorem refs_kill (q : Nat) (x : A) : refs q (comps (kill1 q) x) = false := by
 have h1 : ∀ y,refs1 q (kill1 q y) = false := fun y => by
  unfold kill1; split
  ·rfl
  ·rename_i h; simpa using h
 have hl : ∀ xs : List A,(xs.map (kill1 q)).any (refs1 q) = false := fun xs => by
  rw [List.any_eq_false]; intro y hy
  obtain ⟨z,_,rfl⟩ := List.mem_map.1 hy
  simp [h1 z]
 cases x <;> first
  | exact hl _
  | (simp only [comps,kill1]; split <;> first | rfl | (rename_i h; simpa [refs] using h))
theorem SimE.less (h : SimE φ w0 L E st ev w) {r' : Nat → Option Root} (hr : ∀ q R,r' q = some R → st.r q = some R) : SimE φ w0 L E { st with r := r' } ev w :=
 h.weak hr (fun i => (h.slots i).imp fun v x hx => hx.weak (fun _ h => h) (fun q R hq => ⟨hr q R hq,rfl⟩)) (fun i k b ht => ⟨i,ht⟩)
theorem SimE.unroot (h : SimE φ w0 L E st ev w) (q : Nat) : SimE φ w0 L E (st.setRoot q none) ev w :=
 h.less fun p R hp => by
  split at hp
  ·cases hp
  ·exact hp
theorem RV1.root {q : Nat} {p : Option (Nat × Nat)} {R : Root} (hq : r q = none) {v : Value} {x : A} (hn : refs1 q x = false) (h : RV1 φ E r w v x) :
 RV1 φ ⟨E.ok,fun i => if i = q then p else E.ρ i⟩ (fun i => if i = q then some R else r i) w v x := by
 have hne : ∀ p,(p == q) = false → p ≠ q := fun p h e => by simp [e] at h
 cases h with
 | any => exact .any _
 | undef => exact .undef
 | data _ _ h => exact .data _ _ h
 | tokE => exact .tokE _ _ _
 | tok b o cap k z xs vs hc h0 hz h hv hr => exact .tok b o cap k z xs vs hc h0 hz h hv hr
 | viewN _ q' off n h => have := hne _ hn; exact .viewN _ _ _ _ (by simp [this,h])
 | viewE ad q' off R' h hb hnn => have := hne _ hn; exact .viewE ad q' off R' (by simp [this,h]) hb hnn
 | view b o cap q' off n R' h hb hnn hc h0 hq' hr => have := hne _ hn; exact .view b o cap q' off n R' (by simp [this,h]) hb hnn hc h0 (by simp [this,hq']) hr
 | locN _ q' i c h => have := hne _ hn; exact .locN _ _ _ _ (by simp [this,h])
 | loc b o q' i c R' h hq' => have := hne _ hn; exact .loc b o q' i c R' (by simp [this,h]) (by simp [this,hq'])
theorem RV.root {q : Nat} {p : Option (Nat × Nat)} {R : Root} (hq : r q = none) {v : Value} {x : A} (hn : refs q x = false) (h : RV φ E r w v x) :
 RV φ ⟨E.ok,fun i => if i = q then p else E.ρ i⟩ (fun i => if i = q then some R else r i) w v x := by
 have mp : ∀ {vs : List Value} {xs : List A},xs.any (refs1 q) = false → All2 (RV1 φ E r w) vs xs → All2 (RV1 φ ⟨E.ok,fun i => if i = q then p else E.ρ i⟩ (fun i => if i = q then some R else r i) w) vs xs := fun h1 h2 =>
  ⟨h2.1,fun j v x hv hx => (h2.2 j v x hv hx).root hq (by have := List.any_eq_false.1 h1 x (List.mem_of_getElem? hx); simpa using this)⟩
 cases x with
 | agg xs => obtain ⟨vs,rfl,h1⟩ := h.agg_inv; exact .agg _ _ (mp hn h1)
 | tup xs => obtain ⟨vs,rfl,h1⟩ := h.tup_inv; exact .tup _ _ (mp hn h1)
 | fn g xs => obtain ⟨vs,rfl,h1,h2⟩ := h.fn_inv'; exact .fn _ _ _ (mp hn h1) h2
 | _ => cases h with | one _ _ h => exact .one _ _ (h.root hq hn)
theorem SimE.root (h : SimE φ w0 L E st ev w) {q : Nat} {R : Root} {p : Option (Nat × Nat)} (hq : st.r q = none) (hn : ∀ i,refs q (st.t i) = false)
 (hc : ∀ p' R',st.r p' = some R' → R'.b = true → ∀ x ∈ R'.xs,∀ y ∈ x.cells,refs1 q y = false)
 (hp : ∀ b o,p = some (b,o) → (¬ E.ok b ∧ Zone w0 L b ∧ b < w.heap.size) ∧ (∀ q' b' o',(st.r q').isSome → E.ρ q' = some (b',o') → b' ≠ b) ∧ ∀ i k b',Tk (ev i) (st.t i) k b' → b' ≠ b)
 (hpl : ∀ p',L.pl q = some p' → p = some p') (hR : RootOk φ ⟨E.ok,fun i => if i = q then p else E.ρ i⟩ (st.setRoot q (some R)).r w q R) :
 SimE φ w0 L ⟨E.ok,fun i => if i = q then p else E.ρ i⟩ (st.setRoot q (some R)) ev w := by
 have hsm : ∀ q',q' ≠ q → ((st.setRoot q (some R)).r q').isSome → (st.r q').isSome := fun q' hne hs => by simpa [St.setRoot,hne] using hs
 exact {
  slots := fun i => (h.slots i).root hq (hn i)
  roots := fun q' R' hq' => by
   by_cases e : q' = q
   ·subst e
    simp [St.setRoot] at hq'; subst hq'
    exact hR
   ·have hq2 : st.r q' = some R' := by simpa [St.setRoot,e] using hq'
    have hro := h.roots q' R' hq2
    cases hro with
    | empty z h => exact .empty z (by simp [e,h])
    | sl b o z xs vs hρ hz hh hv hr => exact .sl b o z xs vs (by simp [e,hρ]) hz hh hv hr
    | box b o z x vs hρ hz hlt hl hh hv hr =>
      refine .box b o z x vs (by simp [e,hρ]) hz hlt hl (fun c v a h1 h2 => ?_) hv hr
      have hy := hc q' _ hq2 rfl x (List.mem_singleton.2 rfl) a (List.mem_of_getElem? h2)
      cases hh c v a h1 h2 with
      | data _ h ha => exact .data _ _ h ha
      | any h => exact .any _ h
      | view off n hc h hv => exact .view _ _ _ hc (h.root hq hy) hv
  inj := fun q1 q2 b o b' o' a1 a2 a3 a4 a5 => by
   by_cases e1 : q1 = q
   ·have e2 : q2 ≠ q := fun e => a5 (e1.trans e.symm)
    simp [e1] at a3
    simp [e2] at a4
    exact fun e => (hp b o a3).2.1 q2 b' o' (hsm q2 e2 a2) a4 e.symm
   ·simp [e1] at a3
    by_cases e2 : q2 = q
    ·simp [e2] at a4
     exact (hp b' o' a4).2.1 q1 b o (hsm q1 e1 a1) a3
    ·simp [e2] at a4
     exact h.inj q1 q2 b o b' o' (hsm q1 e1 a1) (hsm q2 e2 a2) a3 a4 a5
  rz := fun q1 b o a1 a3 => by
   by_cases e1 : q1 = q
   ·simp [e1] at a3; exact (hp b o a3).1
   ·simp [e1] at a3; exact h.rz q1 b o (hsm q1 e1 a1) a3
  tz := fun i k b a1 => ⟨(h.tz i k b a1).1,fun q1 b' o a2 a3 => by
   by_cases e1 : q1 = q
   ·simp [e1] at a3
    exact fun e => (hp b' o a3).2.2 i k b a1 e.symm
   ·simp [e1] at a3; exact (h.tz i k b a1).2 q1 b' o (hsm q1 e1 a2) a3⟩
  td := h.td,okz := h.okz,grow := h.grow,frame := h.frame,env := h.env,fr := h.fr,room := h.room
  lent := fun i p' a1 a2 => by
   by_cases e : i = q
   ·simp [e]; exact hpl p' (e ▸ a1)
   ·simp [e]; exact h.lent i p' a1 (hsm i e a2)
  okU := h.okU,okL := h.okL }
theorem Rep.noRef {ok : Nat → Prop} {v : Value} {x : A} (h : Rep φ w ok v x) (q : Nat) : refs1 q x = false := by cases h <;> rfl
theorem SimE.cell_ref (h : SimE φ w0 L E st ev w) {p : Nat} {R : Root} (hp : st.r p = some R) (hb : R.b = true) {x y : A} (hx : x ∈ R.xs) (hy : y ∈ x.cells) {q : Nat} (hr : refs1 q y = true) :
 ∃ (c : Nat),c < 1000 ∧ q = sub p c ∧ x.cells[c]? = some y := by
 cases h.roots p R hp with
 | empty => cases hb
 | sl => cases hb
 | box b o z e vs hρ hz hlt hl hh hv hrm =>
   rw [List.mem_singleton] at hx; subst hx
   obtain ⟨c,hc⟩ := List.mem_iff_getElem?.1 hy
   have hcv : c < vs.length := by
    rw [hl]
    rcases Nat.lt_or_ge c x.cells.length with h' | h'
    ·exact h'
    ·simp [List.getElem?_eq_none h'] at hc
   cases hh c vs[c] y (by simp) hc with
   | data _ h ha => rw [h.noRef q] at hr; cases hr
   | any h => cases hr
   | view off n hc' h hv => exact ⟨c,hc',by simp [refs1] at hr; exact hr.symm,hc⟩
theorem sub_inj {p c p' c' : Nat} (h1 : c < 1000) (h2 : c' < 1000) (h : sub p c = sub p' c') : p = p' ∧ c = c' := by
 simp only [sub] at h; omega
theorem Lent.sub {L : Lent} {q c : Nat} : L.pl (Ab.sub q c) = none := by
 cases h : L.pl (Ab.sub q c) with
 | none => rfl
 | some p => have := L.lt _ _ h; simp only [Ab.sub] at this; omega
theorem sub_ge (p c : Nat) : 1000 ≤ sub p c := by simp only [sub]; omega
structure Wr (w0 : World) (L : Lent) (E : Env) (r r' : Nat → Option Root) (w w' : World) (b : Nat) : Prop where
 same : ∀ b',b' ≠ b → w'.heap[b']? = w.heap[b']?
 size : w'.heap.size = w.heap.size
 env : w'.os = w.os ∧ w'.output = w.output
 fr : ∀ off,w'.frozen? ⟨b,off,none⟩ = w.frozen? ⟨b,off,none⟩
 room : ∀ n,Room w b n → Room w' b n
 nok : ¬ E.ok b
 zone : Zone w0 L b
 sh : ∀ q R',r' q = some R' → ∃ R,r q = some R ∧ R'.b = R.b ∧ R'.z = R.z ∧ R'.xs.length = R.xs.length
section
variable {b : Nat} (W : Wr w0 L E r r' w w' b)
include W
theorem Wr.roomAll {b' n : Nat} (hrm : Room w b' n) : Room w' b' n := by
 by_cases e : b' = b
 ·subst e; exact W.room n hrm
 ·exact hrm.of_block (W.same b' e)
theorem Wr.rep {v : Value} {x : A} (h : Rep φ w E.ok v x) : Rep φ w' E.ok v x := h.mono (fun b' hk => W.same b' fun e => W.nok (e ▸ hk)) (fun _ h => h)
theorem Wr.reps {v : List Value} {x : List A} (h : Reps φ w E.ok v x) : Reps φ w' E.ok v x := h.mono (fun b' hk => W.same b' fun e => W.nok (e ▸ hk)) (fun _ h => h)
theorem Wr.someOf {q : Nat} (hq : (r' q).isSome) : (r q).isSome := by
 obtain ⟨R,hR⟩ := Option.isSome_iff_exists.1 hq
 obtain ⟨R1,h1,_⟩ := W.sh q R hR
 rw [h1]; rfl
theorem Wr.noneOf {q : Nat} (hq : r q = none) : r' q = none := by
 cases e : r' q with
 | none => rfl
 | some R => have := W.someOf (q := q) (by rw [e]; rfl); rw [hq] at this; cases this
theorem RV1.write {v : Value} {x : A} (hnt : ∀ k,¬ Tk1 v x k b) (h : RV1 φ E r w v x) : RV1 φ E r' w' v x := by
 have hsome : ∀ q R,r q = some R → r' q = none ∨ ∃ R',r' q = some R' ∧ R'.b = R.b ∧ R'.z = R.z ∧ R'.xs.length = R.xs.length := fun q R hq => by
  cases e : r' q with
  | none => exact .inl rfl
  | some R' =>
    obtain ⟨R1,h1,h2⟩ := W.sh q R' e
    rw [hq] at h1; cases h1
    exact .inr ⟨R',rfl,h2⟩
 cases h with
 | any => exact .any _
 | undef => exact .undef
 | data _ _ h => exact .data _ _ (W.rep h)
 | tokE => exact .tokE _ _ _
 | tok b' o cap k z xs vs hc h0 hz h hv hrm =>
   have hb : b' ≠ b := fun e => hnt k (e ▸ .mk ⟨b',o,none⟩ _ _ _ _ _ h0)
   exact .tok b' o cap k z xs vs hc h0 hz (W.reps h) (hv.of_block (W.same b' hb)) (W.roomAll hrm)
 | viewN _ q off n h => exact .viewN _ _ _ _ (W.noneOf h)
 | viewE ad q off R h hb hn =>
   rcases hsome q R h with h1 | ⟨R',h1,h2,h3,h4⟩
   ·exact .viewN _ _ _ _ h1
   ·exact .viewE ad q off R' h1 (h2.trans hb) (h4 ▸ hn)
 | view b' o cap q off n R h hb hn hc h0 hq hrm =>
   rcases hsome q R h with h1 | ⟨R',h1,h2,h3,h4⟩
   ·exact .viewN _ _ _ _ h1
   ·rw [← h3] at hrm ⊢
    exact .view b' o cap q off n R' h1 (h2.trans hb) (h4 ▸ hn) hc h0 hq (W.roomAll hrm)
 | locN _ q i c h => exact .locN _ _ _ _ (W.noneOf h)
 | loc b' o q i c R h hq =>
   rcases hsome q R h with h1 | ⟨R',h1,h2,h3,h4⟩
   ·exact .locN _ _ _ _ h1
   ·rw [← h3]; exact .loc b' o q i c R' h1 hq
theorem RV.write {v : Value} {x : A} (hnt : ∀ k,¬ Tk v x k b) (h : RV φ E r w v x) : RV φ E r' w' v x := by
 cases h with
 | one _ _ h => exact .one _ _ (h.write W fun k ht => hnt k (.one _ _ _ _ ht))
 | tup vs xs h => exact .tup vs xs ⟨h.1,fun j v x hv hx => (h.2 j v x hv hx).write W fun k ht => hnt k (.tup vs xs j k b v x hv hx ht)⟩
 | agg vs xs h => exact .agg vs xs ⟨h.1,fun j v x hv hx => (h.2 j v x hv hx).write W fun k ht => hnt k (.agg vs xs j k b v x hv hx ht)⟩
 | fn f vs xs h hn =>
   refine .fn f vs xs ⟨h.1,fun j v x hv hx => (h.2 j v x hv hx).write W fun k ht => ?_⟩ hn
   have := hn x (List.mem_of_getElem? hx)
   cases ht; cases this
theorem CellOk.write {q c : Nat} {v : Value} {x : A} (h : CellOk φ E r w q c v x) : CellOk φ E r' w' q c v x := by
 cases h with
 | data _ h ha => exact .data _ _ (W.rep h) ha
 | any h => exact .any _ h
 | view off n hc h hv => exact .view _ _ _ hc (h.write W fun k ht => by cases ht) hv
end
theorem SimE.write (h : SimE φ w0 L E st ev w) {b : Nat} {r' : Nat → Option Root} (W : Wr w0 L E st.r r' w w' b) (htk : ∀ i k,¬ Tk (ev i) (st.t i) k b)
 (hr : ∀ q R',r' q = some R' → (st.r q = some R' ∧ ∀ o,E.ρ q ≠ some (b,o)) ∨ RootOk φ E r' w' q R') : SimE φ w0 L E { st with r := r' } ev w' := by
 exact {
  slots := fun i => (h.slots i).write W (htk i)
  roots := fun q R' hq => by
   rcases hr q R' hq with ⟨h1,h5⟩ | h5
   ·have hbl : ∀ b' o,E.ρ q = some (b',o) → b' ≠ b := fun b' o hρ e => h5 o (e ▸ hρ)
    cases h.roots q R' h1 with
    | empty z h => exact .empty z h
    | sl b' o z xs vs hρ hz hh hv hrm => exact .sl b' o z xs vs hρ hz (W.reps hh) (hv.of_block (W.same _ (hbl _ _ hρ))) (W.roomAll hrm)
    | box b' o z x vs hρ hz hlt hl hh hv hrm => exact .box b' o z x vs hρ hz hlt hl (fun c v a h1 h2 => (hh c v a h1 h2).write W) (hv.of_block (W.same _ (hbl _ _ hρ))) (W.roomAll hrm)
   ·exact h5
  inj := fun q q' b o b' o' a1 a2 a3 a4 => h.inj q q' b o b' o' (W.someOf a1) (W.someOf a2) a3 a4
  rz := fun q b o a1 a2 => by rw [W.size]; exact h.rz q b o (W.someOf a1) a2
  tz := fun i k b a1 => by rw [W.size]; exact ⟨(h.tz i k b a1).1,fun q b' o a2 a3 => (h.tz i k b a1).2 q b' o (W.someOf a2) a3⟩
  td := h.td
  okz := fun b hk => by rw [W.size]; exact h.okz b hk
  grow := by rw [W.size]; exact h.grow
  frame := fun b' h1 h2 => by
   by_cases e : b' = b
   ·subst e
    rcases W.zone with h3 | h3
    ·omega
    ·exact absurd h3 h2
   ·exact (W.same b' e).trans (h.frame b' h1 h2)
  env := ⟨W.env.1.trans h.env.1,W.env.2.trans h.env.2⟩
  fr := fun b' off hb' => by
   by_cases e : b' = b
   ·subst e; rw [W.fr]; exact h.fr b' off hb'
   ·rw [frozen?_block (W.same b' e)]; exact h.fr b' off hb'
  room := fun b n hr => W.roomAll (h.room b n hr)
  lent := fun i p a1 a2 => h.lent i p a1 (W.someOf a2)
  okU := h.okU,okL := h.okL }
end
end Go.Ab
namespace Go.Ab
section
variable {P : Program} {φ : Nat → Nat} {w0 : World} {L : Lent} {E E' : Env} {st st' : St} {ev ev' : Nat → Value} {w w' : World} {r r' : Nat → Option Root}
theorem setRoot_twice (st : St) (q : Nat) (R : Option Root) : (st.setRoot q none).setRoot q R = st.setRoot q R := by
 simp only [St.setRoot]
 congr 1
 funext i
 split <;> rfl
structure Fresh (w0 : World) (L : Lent) (E : Env) (st : St) (ev : Nat → Value) (w : World) (b : Nat) : Prop where
 z : ¬ E.ok b ∧ Zone w0 L b ∧ b < w.heap.size
 r : ∀ q' b' o',(st.r q').isSome → E.ρ q' = some (b',o') → b' ≠ b
 t : ∀ i k b',Tk (ev i) (st.t i) k b' → b' ≠ b
structure Step (S : Nat → Prop) (E : Env) (st : St) (E' : Env) (st' : St) : Prop where
 ok : ∀ b,E.ok b → E'.ok b
 ρ : ∀ p,¬ S p → E'.ρ p = E.ρ p
 r : ∀ p,¬ S p → st'.r p = st.r p ∨ st'.r p = none
 b : ∀ p R,¬ S p → st.r p = some R → R.b = true → st'.r p = some R
 s : ∀ p R,S p → st'.r p = some R → R.b = false ∨ st.r p = some R
theorem Step.refl (S : Nat → Prop) : Step S E st E st := ⟨fun _ h => h,fun _ _ => rfl,fun _ _ => .inl rfl,fun _ _ _ h _ => h,fun _ _ _ h => .inr h⟩
theorem Step.trans {S : Nat → Prop} {E1 E2 : Env} {st1 st2 : St} (h : Step S E st E1 st1) (h' : Step S E1 st1 E2 st2) : Step S E st E2 st2 where
 ok := fun b hb => h'.ok b (h.ok b hb)
 ρ := fun p hp => (h'.ρ p hp).trans (h.ρ p hp)
 r := fun p hp => by
   rcases h'.r p hp with h1 | h1
   ·rw [h1]; exact h.r p hp
   ·exact .inr h1
 b := fun p R hp hR hb => h'.b p R hp (h.b p R hp hR hb) hb
 s := fun p R hp hR => by
   rcases h'.s p R hp hR with h1 | h1
   ·exact .inl h1
   ·exact h.s p R hp h1
theorem Step.mono {S T : Nat → Prop} (h : Step S E st E' st') (hST : ∀ p,S p → T p) (hr : ∀ p,T p → ¬ S p → E'.ρ p = E.ρ p) : Step T E st E' st' where
 ok := h.ok
 ρ := fun p hp => h.ρ p fun hs => hp (hST p hs)
 r := fun p hp => h.r p fun hs => hp (hST p hs)
 b := fun p R hp => h.b p R fun hs => hp (hST p hs)
 s := fun p R hp hR => by
   by_cases hs : S p
   ·exact h.s p R hs hR
   ·rcases h.r p hs with h1 | h1
    ·exact .inr (h1 ▸ hR)
    ·rw [h1] at hR; cases hR
theorem Step.box {S : Nat → Prop} (h : Step S E st E' st') {p : Nat} {R : Root} (hR : st'.r p = some R) (hb : R.b = true) : st.r p = some R := by
 by_cases hs : S p
 ·rcases h.s p R hs hR with h1 | h1
  ·rw [hb] at h1; cases h1
  ·exact h1
 ·rcases h.r p hs with h1 | h1
  ·exact h1 ▸ hR
  ·rw [h1] at hR; cases hR
theorem SimE.rootTok (h : SimE φ w0 L E st ev w) {v : Value} {k z : Nat} {xs : List A} (hv : RV1 φ E st.r w v (.tok k z xs)) (ht : ∀ b,Tk1 v (.tok k z xs) k b → ∃ i,Tk (ev i) (st.t i) k b) {q : Nat} (hpl : L.pl q = none)
 (hc : ∀ p' R',st.r p' = some R' → R'.b = true → ∀ x ∈ R'.xs,∀ y ∈ x.cells,refs1 q y = false) :
 ∃ E',SimE φ w0 L E' (((st.killTok k).kill q).setRoot q (some ⟨false,z,xs⟩)) ev w ∧ Step (· = q) E st E' (((st.killTok k).kill q).setRoot q (some ⟨false,z,xs⟩)) ∧
   RV1 φ E' (((st.killTok k).kill q).setRoot q (some ⟨false,z,xs⟩)).r w v (.view q 0 xs.length) := by
 have h1 := (((h.killTok k).kill q).unroot q)
 rw [← setRoot_twice]
 have hn : ∀ i,refs q ((((st.killTok k).kill q).setRoot q none).t i) = false := fun i => refs_kill q _
 have hq0 : ((((st.killTok k).kill q).setRoot q none).r q) = none := by simp [St.setRoot]
 have hc' : ∀ p' R',(((st.killTok k).kill q).setRoot q none).r p' = some R' → R'.b = true → ∀ x ∈ R'.xs,∀ y ∈ x.cells,refs1 q y = false := fun p' R' hp hb => by
  simp only [St.setRoot] at hp
  split at hp
  ·cases hp
  ·exact hc p' R' hp hb
 have step : ∀ p,Step (· = q) E st ⟨E.ok,fun i => if i = q then p else E.ρ i⟩ ((((st.killTok k).kill q).setRoot q none).setRoot q (some ⟨false,z,xs⟩)) := fun p => by
  refine ⟨fun _ h => h,fun p' hp => if_neg hp,fun p' hp => .inl ?_,fun p' R hp hR _ => ?_,fun p' R hp hR => .inl ?_⟩
  ·simp [St.setRoot,St.kill,St.killTok,St.map,hp]
  ·simpa [St.setRoot,St.kill,St.killTok,St.map,hp] using hR
  ·simp [St.setRoot,hp] at hR; rw [← hR]
 cases hv with
 | data _ _ hh => cases hh
 | tokE ad =>
   refine ⟨_,h1.root (p := none) (R := ⟨false,z,[]⟩) hq0 hn hc' (fun b o e => by cases e) (fun p' e => by rw [hpl] at e; cases e) (.empty z (by simp)),step none,?_⟩
   exact .viewE ad q 0 ⟨false,z,[]⟩ (by simp [St.setRoot]) rfl (Nat.zero_le _)
 | tok b o cap k z xs vs hcc h0 hz hh hv' hrm =>
   obtain ⟨i,hi⟩ := ht b (.mk ⟨b,o,none⟩ _ _ _ _ _ h0)
   have hf := h.tz i k b hi
   refine ⟨_,h1.root (p := some (b,o)) (R := ⟨false,z,xs⟩) hq0 hn hc' (fun b' o' e => ?_) (fun p' e => by rw [hpl] at e; cases e) (.sl b o z xs vs (by simp) hz hh hv' (hrm.le ?_)),step _,?_⟩
   ·cases e
    refine ⟨hf.1,fun q' b' o' a1 a2 => hf.2 q' b' o' ?_ a2,fun i' k' b' a1 => ?_⟩
    ·simp only [St.setRoot] at a1
     split at a1
     ·cases a1
     ·exact a1
    ·have h2 := (Tk.comps (fd_kill q) a1).1
     have h3 := Tk.comps (fd_killTok k) h2
     exact (h.td i' i k' k b' b h3.1 hi h3.2)
   ·have := Nat.mul_le_mul_right z hcc; omega
   ·have := RV1.view (φ := φ) (E := ⟨E.ok,fun i => if i = q then some (b,o) else E.ρ i⟩) (r := ((((st.killTok k).kill q).setRoot q none).setRoot q (some ⟨false,z,xs⟩)).r) (w := w) b o cap q 0 xs.length ⟨false,z,xs⟩
     (by simp [St.setRoot]) rfl (by simp) hcc h0 (by simp) (by simpa using hrm)
    simpa using this
theorem view_rep {q off n : Nat} {R : Root} {K : Nat → Prop} (hro : RootOk φ E r w q R) (hR : r q = some R) {v : Value} (hv : RV1 φ E r w v (.view q off n)) (hok : ∀ b,E.ok b → K b) (hK : ∀ b o,E.ρ q = some (b,o) → K b) :
 Rep φ w K v (.sl R.z ((R.xs.drop off).take n)) := by
 cases hv with
 | data _ _ h => cases h
 | viewN _ _ _ _ h1 => rw [h1] at hR; cases hR
 | viewE ad q off R' h1 hb hn =>
   rw [List.take_zero]
   exact .slE _ _ _
 | view b o cap q off n R' h1 hb hn hcc h0 hρ hm' =>
   rw [h1] at hR; cases hR
   have hlen : ((R.xs.drop off).take n).length = n := by simp; omega
   cases hro with
   | empty z h =>
     simp at hn
     obtain ⟨rfl,rfl⟩ := hn
     exact .slE _ _ _
   | sl b' o' z xs vs hρ' hz hh hv' hr' =>
     rw [hρ] at hρ'; cases hρ'
     have := Rep.sl (φ := φ) (w := w) (ok := K) b (o + off * z) cap z ((xs.drop off).take n) ((vs.drop (off * z)).take (n * z)) (hK b o hρ)
      (fun y hy => hz y (List.mem_of_mem_drop (List.mem_of_mem_take hy))) (by rw [hlen]; omega) (by
        rw [flat_take (fun x hx => hz x (List.mem_of_mem_drop hx)),flat_drop hz]
        exact ((hh.mono (fun _ _ => rfl) hok).drop _).take _) ((hv'.drop _).take _)
     rw [hlen] at this
     exact this
   | box => cases hb
theorem SimE.pin1 (h : SimE φ w0 L E st ev w) {i j : Nat} {st1 : St} (hp : st.pin1 i j = some st1) : ∃ E',SimE φ w0 L E' st1 ev w ∧ E'.ρ = E.ρ ∧ Step (fun _ => False) E st E' st1 := by
 unfold St.pin1 at hp
 split at hp
 ·rename_i k z xs hcm
  simp only [Option.some.injEq] at hp; subst hp
  refine ⟨_,h.giveUp (N := fun _ => False) (T := (· = k)) (ok' := fun b => E.ok b ∨ ∃ i,Tk (ev i) (st.t i) k b) (ev' := ev) (st' := st.map (unTok k)) (fun b hb => .inl hb) (fun b hb => ?_) (fun q R hq => ⟨hq,id⟩)
   (fun i => (h.slots i).comps' (fd_unTok k).nt fun u y hty hy => ?_) (fun i k' b ht => ?_),rfl,⟨fun b hb => .inl hb,fun _ _ => rfl,fun _ _ => .inl rfl,fun _ _ _ h _ => h,fun _ _ h => h.elim⟩⟩
  ·rcases hb with h1 | ⟨i,h1⟩
   ·exact .inl h1
   ·exact .inr (.inr ⟨i,k,rfl,h1⟩)
  ·have hw : ∀ {x},RV1 φ E st.r w u x → RV1 φ ⟨fun b => E.ok b ∨ ∃ i,Tk (ev i) (st.t i) k b,E.ρ⟩ st.r w u x := fun hx => RV1.weak (E' := ⟨fun b => E.ok b ∨ ∃ i,Tk (ev i) (st.t i) k b,E.ρ⟩) (fun b hb => Or.inl hb) (fun q R hq => ⟨hq,rfl⟩) hx
   unfold unTok1
   split
   ·rename_i j z xs
    split
    ·rename_i hjk; subst hjk
     cases hy with
     | data _ _ hh => cases hh
     | tokE => exact .data _ _ (.slE _ _ _)
     | tok b o cap j z xs vs hcc h0 hz hh hv' hrm =>
       exact .data _ _ (.sl b o cap z xs vs (.inr ⟨i,hty _ _ (.mk ⟨b,o,none⟩ _ _ _ _ _ h0)⟩) hz hcc (hh.mono (fun _ _ => rfl) (fun b hb => .inl hb)) hv')
    ·exact hw hy
   ·exact hw hy
  ·have := Tk.comps (fd_unTok k) ht
   exact ⟨this.2,i,this.1⟩
 ·rename_i q off n hcm
  obtain ⟨R,hR,hp⟩ := Option.bind_eq_some_iff.1 hp
  split at hp
  ·cases hp
  ·rename_i hb
   simp only [Option.some.injEq] at hp; subst hp
   have hr : ∀ p R',((st.map (unRoot q R)).setRoot q none).r p = some R' → st.r p = some R' ∧ ¬ p = q := fun p R' hp => by
    simp only [St.setRoot] at hp
    split at hp
    ·cases hp
    ·exact ⟨hp,by assumption⟩
   refine ⟨_,h.giveUp (N := (· = q)) (T := fun _ => False) (ok' := fun b => E.ok b ∨ ∃ o,E.ρ q = some (b,o)) (ev' := ev) (st' := (st.map (unRoot q R)).setRoot q none) (fun b hb => .inl hb) (fun b hb => ?_) hr
    (fun i => (h.slots i).comps' (fd_unRoot q R).nt fun u y hty hy => ?_) (fun i k' b ht => ⟨id,i,(Tk.comps (fd_unRoot q R) ht).1⟩),rfl,
    ⟨fun b hb => .inl hb,fun _ _ => rfl,fun p _ => ?_,fun p R' _ hR' hb' => ?_,fun _ _ h => h.elim⟩⟩
   ·rcases hb with h1 | ⟨o,h1⟩
    ·exact .inl h1
    ·exact .inr (.inl ⟨q,o,rfl,by rw [hR]; rfl,h1⟩)
   ·have hw : ∀ {x},RV1 φ E st.r w u x → RV1 φ ⟨fun b => E.ok b ∨ ∃ o,E.ρ q = some (b,o),E.ρ⟩ ((st.map (unRoot q R)).setRoot q none).r w u x := fun hx => RV1.weak (E' := ⟨fun b => E.ok b ∨ ∃ o,E.ρ q = some (b,o),E.ρ⟩) (fun b hb => Or.inl hb) (fun p R' hp => ⟨(hr p R' hp).1,rfl⟩) hx
    unfold unRoot1
    split
    ·rename_i q' off' n'
     split
     ·rename_i hqq; subst hqq
      exact .data _ _ (view_rep (h.roots q' R hR) hR hy (fun b hb => .inl hb) (fun b o hρ => .inr ⟨o,hρ⟩))
     ·exact hw hy
    ·split
     ·exact .any _
     ·exact hw hy
    ·exact hw hy
   ·simp only [St.setRoot,St.map]
    split
    ·exact .inr rfl
    ·exact .inl rfl
   ·simp only [St.setRoot,St.map]
    rw [if_neg]
    ·exact hR'
    ·intro e; subst e; rw [hR] at hR'; cases hR'; exact hb hb'
 ·simp only [Option.some.injEq] at hp; subst hp
  exact ⟨E,h,rfl,.refl _⟩
theorem SimE.pinN (h : SimE φ w0 L E st ev w) {i : Nat} : ∀ {n : Nat} {st1 : St},st.pinN i n = some st1 → ∃ E',SimE φ w0 L E' st1 ev w ∧ E'.ρ = E.ρ ∧ Step (fun _ => False) E st E' st1
 | 0,st1,hp => by simp [St.pinN] at hp; subst hp; exact ⟨E,h,rfl,.refl _⟩
 | n + 1,st1,hp => by
   simp only [St.pinN] at hp
   obtain ⟨s,hs,hp⟩ := Option.bind_eq_some_iff.1 hp
   obtain ⟨E1,h1,hρ1,hs1⟩ := h.pinN hs
   obtain ⟨E2,h2,hρ2,hs2⟩ := h1.pin1 hp
   exact ⟨E2,h2,hρ2.trans hρ1,hs1.trans hs2⟩
def evG (ev : Nat → Value) (i : Nat) (v : Value) : Nat → Value := fun j => if j = i then v else ev j
theorem SimE.putG (h : SimE φ w0 L E st ev w) {v : Value} {x : A} (hv : RV φ E st.r w v x) (hc : ∀ k b,Tk v x k b → ∃ i,Tk (ev i) (st.t i) k b) (i : Nat) : SimE φ w0 L E (st.put' i x) (evG ev i v) w :=
 h.weak (fun _ _ h => h) (fun j => by
  simp only [St.put',evG]
  split
  ·exact hv
  ·exact h.slots j) (fun j k b ht => by
  simp only [St.put',evG] at ht
  split at ht
  ·exact hc k b ht
  ·exact ⟨j,ht⟩)
theorem noTk_any {v : Value} (k b : Nat) : ¬ Tk v .any k b := by
 intro h; cases h with
 | one _ _ _ _ h => cases h
theorem SimE.dropG {v : Value} {i : Nat} (h : SimE φ w0 L E st (evG ev i v) w) : SimE φ w0 L E (st.put' i .any) ev w :=
 h.weak (fun _ _ h => h) (fun j => by
  simp only [St.put']
  split
  ·exact .one _ _ (.any _)
  ·rename_i hj
   have := h.slots j
   simpa [evG,hj] using this) (fun j k b ht => by
  simp only [St.put'] at ht
  split at ht
  ·exact (noTk_any _ _ ht).elim
  ·rename_i hj
   exact ⟨j,by simpa [evG,hj] using ht⟩)
theorem Step.of_r {S : Nat → Prop} {st1 : St} (h : Step S E st E' st') (h1 : st1.r = st.r) {st2 : St} (h2 : st2.r = st'.r) : Step S E st1 E' st2 where
 ok := h.ok
 ρ := h.ρ
 r := by rw [h1,h2]; exact h.r
 b := by rw [h1,h2]; exact h.b
 s := by rw [h1,h2]; exact h.s
theorem pureC_norm {x : A} (h : Ab.pureC x = true) : Ab.pureC (normC x) = true := by
 cases x <;> first | exact h | rfl
theorem dat_cells {x y : A} (h : dat x = some y) : y.cells.all Ab.pureC = true := by
 unfold dat at h
 split at h
 ·rename_i hp
  simp only [Option.some.injEq] at h; subst h
  cases x with
  | agg cs =>
    simp only [Ab.pure] at hp
    simp only [normA,A.cells,List.all_map]
    rw [List.all_eq_true] at hp ⊢
    intro y hy
    exact pureC_norm (hp y hy)
  | _ => simp only [Ab.pure] at hp; simp only [normA]; rw [A.cells_one (fun l e => by have := pureC_norm hp; rw [e] at this; simp [Ab.pureC] at this)]; simpa using pureC_norm hp
 ·cases h
theorem SimE.pin (h : SimE φ w0 L E st ev w) {v : Value} {x y : A} (hv : RV φ E st.r w v x) (hc : ∀ k b,Tk v x k b → ∃ i,Tk (ev i) (st.t i) k b) {st1 : St} (hp : st.pin x = some (y,st1)) :
 ∃ E',SimE φ w0 L E' st1 ev w ∧ E'.ρ = E.ρ ∧ Step (fun _ => False) E st E' st1 ∧ Rep φ w E'.ok v y ∧ y.cells.all Ab.pureC = true := by
 unfold St.pin at hp
 obtain ⟨s,hs,hp⟩ := Option.bind_eq_some_iff.1 hp
 obtain ⟨y',hy,hp⟩ := Option.map_eq_some_iff.1 hp
 cases hp
 obtain ⟨E1,h1,hρ1,hs1⟩ := (h.putG hv hc gs).pinN hs
 have h2 := h1.slots gs
 simp only [evG,if_true] at h2
 exact ⟨E1,h1.dropG,hρ1,Step.of_r (st1 := st) (st2 := s.put' gs .any) hs1 rfl rfl,dat_rep h2 hy,dat_cells hy⟩
theorem RV1.oneC {v : Value} {x : A} (h : RV1 φ E r w v x) (hs : solid r x = true) (hx : ∀ cs,x ≠ .agg cs) : (∀ cs,v ≠ .agg cs) ∧ (∀ vs,v ≠ .tuple vs) := by
 cases h with
 | any => simp [Ab.solid,Ab.pureC] at hs
 | undef => simp [Ab.solid,Ab.pureC] at hs
 | data _ _ h => exact h.oneCell hx
 | viewN _ _ _ _ h1 => simp [solid,h1] at hs
 | locN _ _ _ _ h1 => simp [solid,h1] at hs
 | _ => exact ⟨(fun _ h => by cases h),(fun _ h => by cases h)⟩
theorem comp_rv {v : Value} {x a : A} {j : Nat} (h : RV φ E r w v x) (ha : comp x j = a) (hs : solid r a = true) :
 ∃ u,v.cells[j]? = some u ∧ RV1 φ E r w u a ∧ ((∀ cs,u ≠ .agg cs) ∧ (∀ vs,u ≠ .tuple vs)) ∧ ∀ k b,Tk1 u a k b → Tk v x k b := by
 have hna : ∀ cs,a ≠ .agg cs := fun cs e => by subst e; simp [solid,pureC] at hs
 have hj : x.cells[j]? = some a := by
  unfold comp at ha
  cases hj : x.cells[j]? with
  | none => rw [hj] at ha; simp at ha; subst ha; simp [solid,pureC] at hs
  | some y => rw [hj] at ha; simp at ha; rw [ha]
 by_cases hx : ∃ cs,x = .agg cs
 ·obtain ⟨cs,rfl⟩ := hx
  obtain ⟨vs,rfl,h1⟩ := h.agg_inv
  simp only [A.cells] at hj
  obtain ⟨u,hu,h2⟩ := h1.get hj
  exact ⟨u,by simpa [Value.cells] using hu,h2,h2.oneC hs hna,fun k b ht => .agg vs cs j k b u a hu hj ht⟩
 ·have hx' : ∀ cs,x ≠ .agg cs := fun cs e => hx ⟨cs,e⟩
  rw [A.cells_one hx'] at hj
  cases j with
  | succ j => simp at hj
  | zero =>
    simp at hj; subst hj
    have h1 : RV1 φ E r w v x ∧ v.cells = #[v] := solid_one (st := ⟨fun _ => .any,r⟩) h hs hx'
    exact ⟨v,by rw [h1.2]; rfl,h1.1,h1.1.oneC hs hx',fun k b ht => .one _ _ _ _ ht⟩
theorem pureC_solid {x : A} (h : Ab.pureC x = true) : solid r x = true := by
 cases x <;> first | exact h | (simp [Ab.pureC] at h; done) | simp [solid,h]
theorem pureC_nagg {x : A} (h : Ab.pureC x = true) (cs : List A) : x ≠ .agg cs := by
 rintro rfl; simp [Ab.pureC] at h
theorem normC_nagg {x : A} (h : ∀ cs,x ≠ .agg cs) (cs : List A) : normC x ≠ .agg cs := by
 cases x <;> simp only [normC] <;> first | exact h _ | (intro e; cases e)
theorem SimE.absorb1 (h : SimE φ w0 L E st ev w) {q c j : Nat} {y : A} {st1 : St} (ha : st.absorb1 q c j = some (y,st1))
 (hc : ∀ p' R',st.r p' = some R' → R'.b = true → ∀ x ∈ R'.xs,∀ y ∈ x.cells,refs1 (sub q (c + j)) y = false) :
 ∃ E' u,SimE φ w0 L E' st1 ev w ∧ Step (· = sub q (c + j)) E st E' st1 ∧ (ev gs).cells[j]? = some u ∧ CellOk φ E' st1.r w q (c + j) u y := by
 have hslot := h.slots gs
 have pure : ∀ {E1 : Env} {s1 : St} {x : A},SimE φ w0 L E1 s1 ev w → comp (s1.t gs) j = x → Ab.pureC x = true → ∃ u,(ev gs).cells[j]? = some u ∧ CellOk φ E1 s1.r w q (c + j) u (normC x) ∧ CellOk φ E1 s1.r w q (c + j) u x := by
  intro E1 s1 x h1 hcm hp
  obtain ⟨u,hu,h2,h3,_⟩ := comp_rv (h1.slots gs) hcm (pureC_solid hp)
  exact ⟨u,hu,.data _ _ (h2.pureC hp).norm (normC_nagg (pureC_nagg hp)),.data _ _ (h2.pureC hp) (pureC_nagg hp)⟩
 unfold St.absorb1 at ha
 split at ha
 ·rename_i k z xs hcm
  split at ha
  ·rename_i hlt
   simp only [Option.some.injEq,Prod.mk.injEq] at ha
   obtain ⟨rfl,rfl⟩ := ha
   obtain ⟨u,hu,h2,h3,h4⟩ := comp_rv hslot hcm (by rfl)
   obtain ⟨E1,h5,h6,h7⟩ := h.rootTok h2 (fun b ht => ⟨gs,h4 k b ht⟩) Lent.sub hc
   exact ⟨E1,u,h5,h6,hu,.view _ _ _ hlt h7 h3⟩
  ·cases ha
 ·rename_i s off n hcm
  split at ha
  ·rename_i hcond
   obtain ⟨rfl,hlt,hsm⟩ := hcond
   simp only [Option.some.injEq,Prod.mk.injEq] at ha
   obtain ⟨rfl,rfl⟩ := ha
   obtain ⟨u,hu,h2,h3,h4⟩ := comp_rv hslot hcm hsm
   exact ⟨E,u,h,.refl _,hu,.view _ _ _ hlt h2 h3⟩
  ·obtain ⟨s1,hs1,ha⟩ := Option.bind_eq_some_iff.1 ha
   split at ha
   ·rename_i hp
    simp only [Option.some.injEq,Prod.mk.injEq] at ha
    obtain ⟨rfl,rfl⟩ := ha
    obtain ⟨E1,h1,hρ,hst⟩ := h.pin1 hs1
    obtain ⟨u,hu,h2,_⟩ := pure h1 rfl hp
    exact ⟨E1,u,h1,hst.mono (fun _ h => h.elim) (fun p _ _ => by rw [hρ]),hu,h2⟩
   ·cases ha
 ·rename_i z hcm
  simp only [Option.some.injEq,Prod.mk.injEq] at ha
  obtain ⟨rfl,rfl⟩ := ha
  obtain ⟨u,hu,_,h2⟩ := pure h hcm rfl
  exact ⟨E,u,h,.refl _,hu,h2⟩
 ·split at ha
  ·rename_i hp
   simp only [Option.some.injEq,Prod.mk.injEq] at ha
   obtain ⟨rfl,rfl⟩ := ha
   obtain ⟨u,hu,h2,_⟩ := pure h rfl hp
   exact ⟨E,u,h,.refl _,hu,h2⟩
  ·cases ha
theorem RV1.weakView {q off n : Nat} (hr : ∀ R,r' q = some R → r q = some R ∧ E'.ρ q = E.ρ q) {v : Value} (h : RV1 φ E r w v (.view q off n)) : RV1 φ E' r' w v (.view q off n) := by
 have hnone : r q = none → r' q = none := fun hq => by
  cases e : r' q with
  | none => rfl
  | some R => have := (hr R e).1; rw [hq] at this; cases this
 have hsome : ∀ R,r q = some R → r' q = none ∨ (r' q = some R ∧ E'.ρ q = E.ρ q) := fun R hq => by
  cases e : r' q with
  | none => exact .inl rfl
  | some R' => have := hr R' e; rw [hq] at this; obtain ⟨h1,h2⟩ := this; cases h1; exact .inr ⟨rfl,h2⟩
 cases h with
 | data _ _ h => cases h
 | viewN _ q off n h => exact .viewN _ _ _ _ (hnone h)
 | viewE ad q off R h hb hn =>
   rcases hsome R h with h1 | ⟨h1,h2⟩
   ·exact .viewN _ _ _ _ h1
   ·exact .viewE ad q off R h1 hb hn
 | view b o cap q off n R h hb hn hc h0 hq hr =>
   rcases hsome R h with h1 | ⟨h1,h2⟩
   ·exact .viewN _ _ _ _ h1
   ·exact .view b o cap q off n R h1 hb hn hc h0 (h2.trans hq) hr
theorem CellOk.step {S : Nat → Prop} (hs : Step S E st E' st') {q c : Nat} (hn : ¬ S (sub q c)) {v : Value} {x : A} (h : CellOk φ E st.r w q c v x) : CellOk φ E' st'.r w q c v x := by
 cases h with
 | data _ h ha => exact .data _ _ (h.mono (fun _ _ => rfl) hs.ok) ha
 | any h => exact .any _ h
 | view off n hc h hv =>
   refine .view _ _ _ hc (h.weakView fun R hR => ?_) hv
   rcases hs.r _ hn with h1 | h1
   ·exact ⟨h1 ▸ hR,hs.ρ _ hn⟩
   ·rw [h1] at hR; cases hR
theorem SimE.absorbs {q c : Nat} : ∀ {n j : Nat} {E : Env} {st : St} {ys : List A} {st1 : St},SimE φ w0 L E st ev w → st.absorbs q c j n = some (ys,st1) → c + j + n ≤ 1000 →
 (∀ c',c + j ≤ c' → c' < c + j + n → ∀ p' R',st.r p' = some R' → R'.b = true → ∀ x ∈ R'.xs,∀ y ∈ x.cells,refs1 (sub q c') y = false) →
 ∃ E',SimE φ w0 L E' st1 ev w ∧ Step (fun p => ∃ c',c + j ≤ c' ∧ c' < c + j + n ∧ p = sub q c') E st E' st1 ∧ ys.length = n ∧
   ∀ i y,ys[i]? = some y → ∃ u,(ev gs).cells[j + i]? = some u ∧ CellOk φ E' st1.r w q (c + j + i) u y
 | 0,j,E,st,ys,st1,h,ha,_,_ => by
   simp [St.absorbs] at ha
   obtain ⟨rfl,rfl⟩ := ha
   exact ⟨E,h,.refl _,rfl,fun i y hy => by simp at hy⟩
 | n + 1,j,E,st,ys,st1,h,ha,hlt,hc => by
   simp only [St.absorbs] at ha
   obtain ⟨⟨x,s⟩,hs,ha⟩ := Option.bind_eq_some_iff.1 ha
   obtain ⟨⟨xs,s2⟩,hxs,ha⟩ := Option.map_eq_some_iff.1 ha
   simp only [Prod.mk.injEq] at ha
   obtain ⟨rfl,rfl⟩ := ha
   obtain ⟨E1,u,h1,hst,hu,hcell⟩ := h.absorb1 hs (hc (c + j) (Nat.le_refl _) (by omega))
   obtain ⟨E2,h2,hst2,hl,hall⟩ := h1.absorbs hxs (by omega) (fun c' a1 a2 p' R' hp hb => hc c' (by omega) (by omega) p' R' (hst.box hp hb) hb)
   have hinj : ∀ c',c + (j + 1) ≤ c' → c' < c + (j + 1) + n → sub q (c + j) ≠ sub q c' := fun c' a1 a2 e => by simp only [sub] at e; omega
   have m1 : Step (fun p => ∃ c',c + j ≤ c' ∧ c' < c + j + (n + 1) ∧ p = sub q c') E st E1 s := by
    refine ⟨hst.ok,fun p hp => hst.ρ p fun e => hp ⟨c + j,by omega,by omega,e⟩,fun p hp => hst.r p fun e => hp ⟨c + j,by omega,by omega,e⟩,fun p R hp => hst.b p R fun e => hp ⟨c + j,by omega,by omega,e⟩,fun p R _ hR => ?_⟩
    by_cases e : p = sub q (c + j)
    ·exact hst.s p R e hR
    ·rcases hst.r p e with h3 | h3
     ·exact .inr (h3 ▸ hR)
     ·rw [h3] at hR; cases hR
   have m2 : Step (fun p => ∃ c',c + j ≤ c' ∧ c' < c + j + (n + 1) ∧ p = sub q c') E1 s E2 s2 := by
    refine ⟨hst2.ok,fun p hp => hst2.ρ p ?_,fun p hp => hst2.r p ?_,fun p R hp => hst2.b p R ?_,fun p R _ hR => ?_⟩
    ·rintro ⟨c',a1,a2,e⟩; exact hp ⟨c',by omega,by omega,e⟩
    ·rintro ⟨c',a1,a2,e⟩; exact hp ⟨c',by omega,by omega,e⟩
    ·rintro ⟨c',a1,a2,e⟩; exact hp ⟨c',by omega,by omega,e⟩
    ·by_cases e : ∃ c',c + (j + 1) ≤ c' ∧ c' < c + (j + 1) + n ∧ p = sub q c'
     ·exact hst2.s p R e hR
     ·rcases hst2.r p e with h3 | h3
      ·exact .inr (h3 ▸ hR)
      ·rw [h3] at hR; cases hR
   refine ⟨E2,h2,m1.trans m2,by simp [hl],fun i y hy => ?_⟩
   cases i with
   | zero =>
     simp at hy; subst hy
     exact ⟨u,hu,hcell.step hst2 (fun ⟨c',a1,a2,e⟩ => hinj c' a1 a2 e)⟩
   | succ i =>
     obtain ⟨u',hu',hcell'⟩ := hall i y (by simpa using hy)
     exact ⟨u',by rw [show j + (i + 1) = j + 1 + i from by omega]; exact hu',by rw [show c + j + (i + 1) = c + (j + 1) + i from by omega]; exact hcell'⟩
end
end Go.Ab
