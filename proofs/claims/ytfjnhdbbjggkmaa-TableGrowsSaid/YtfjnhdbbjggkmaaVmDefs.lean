/- VM: an evaluator of the model's code, and that what it answers the model answers (Defs). -/
import GoSem.Machine.Frame
import GoSem.Machine.Return
set_option linter.unusedVariables false
set_option linter.unusedSimpArgs false
namespace Go.Vm
noncomputable section

/-! ### Symbolic numbers and truth values -/
inductive IOp | add | sub | mul | tdiv | tmod | shl | shr | and | or | xor | andNot | min | max | lz | tz | pop
inductive IE
  | c (n : Int)
  | v (i : Nat)
  | wrap (k : IntKind) (a : IE)
  | bin (o : IOp) (k : IntKind) (a b : IE)
inductive BE
  | c (b : Bool)
  | lt (a b : IE)
  | le (a b : IE)
  | eq (a b : IE)
  | not (a : BE)

/-! numbers, fast -/
def ieqb : Int → Int → Bool
  | .ofNat m, .ofNat n => Nat.beq m n
  | .negSucc m, .negSucc n => Nat.beq m n
  | _, _ => false
def ileb : Int → Int → Bool
  | .ofNat m, .ofNat n => Nat.ble m n
  | .negSucc m, .negSucc n => Nat.ble n m
  | .negSucc _, .ofNat _ => true
  | .ofNat _, .negSucc _ => false
def iltb (a b : Int) : Bool := !(ileb b a)
def kN : IntKind → Nat
  | .i8 => 0 | .i16 => 1 | .i32 => 2 | .i64 => 3 | .u8 => 4 | .u16 => 5 | .u32 => 6 | .u64 => 7
def keq (a b : IntKind) : Bool := Nat.beq (kN a) (kN b)
def two : IntKind → Nat
  | .i8 => 256 | .u8 => 256
  | .i16 => 65536 | .u16 => 65536
  | .i32 => 4294967296 | .u32 => 4294967296
  | .i64 => 18446744073709551616 | .u64 => 18446744073709551616
def bitsN : IntKind → Nat
  | .i8 => 8 | .u8 => 8 | .i16 => 16 | .u16 => 16 | .i32 => 32 | .u32 => 32 | .i64 => 64 | .u64 => 64
def sgn : IntKind → Bool
  | .i8 => true | .i16 => true | .i32 => true | .i64 => true
  | .u8 => false | .u16 => false | .u32 => false | .u64 => false
/-- The remainder of a number by what is above 0. -/
def imod : Int → Nat → Nat
  | .ofNat m, n => Nat.mod m n
  | .negSucc m, n => Nat.sub (Nat.sub n 1) (Nat.mod m n)
def wrapB (s : Bool) : Nat → Nat → Int := match s with
  | false => fun m _ => .ofNat m
  | true => fun m n => match Nat.ble (n / 2) m with
    | true => Int.subNatNat m n
    | false => .ofNat m
def wrapF (k : IntKind) (n : Int) : Int := wrapB (sgn k) (imod n (two k)) (two k)
def andF (k : IntKind) (x y : Int) : Int := wrapB (sgn k) (Nat.land (imod x (two k)) (imod y (two k))) (two k)
def orF (k : IntKind) (x y : Int) : Int := wrapB (sgn k) (Nat.lor (imod x (two k)) (imod y (two k))) (two k)
def xorF (k : IntKind) (x y : Int) : Int := wrapB (sgn k) (Nat.xor (imod x (two k)) (imod y (two k))) (two k)
def andNotF (k : IntKind) (x y : Int) : Int := wrapB (sgn k) (Nat.land (imod x (two k)) (two k - 1 - imod y (two k))) (two k)
def isub : Int → Int → Int
  | .ofNat m, .ofNat n => Int.subNatNat m n
  | a, b => a - b
/-- How many noughts stand ahead, behind, and how many ones there are, in so many bits. -/
def lzN (w n : Nat) : Nat := match n with | 0 => w | m + 1 => w - 1 - Nat.log2 (m + 1)
def tzN (w n : Nat) : Nat := Nat.rec (fun _ => 0) (fun _ ih n => match n % 2 with | 0 => ih (n / 2) + 1 | _ => 0) w n
def popN (w n : Nat) : Nat := Nat.rec (fun _ => 0) (fun _ ih n => ih (n / 2) + n % 2) w n
/-- What an operation gives. -/
def IOp.den : IOp → IntKind → Int → Int → Int
  | .add => fun _ x y => x + y
  | .sub => fun _ x y => isub x y
  | .mul => fun _ x y => x * y
  | .tdiv => fun _ x y => x.tdiv y
  | .tmod => fun _ x y => x.tmod y
  | .shl => fun k x y => x * .ofNat (Nat.pow 2 (Nat.min y.toNat (bitsN k)))
  | .shr => fun k x y => x.fdiv (.ofNat (Nat.pow 2 (Nat.min y.toNat (bitsN k))))
  | .and => andF
  | .or => orF
  | .xor => xorF
  | .andNot => andNotF
  | .min => fun _ x y => match iltb y x with | true => y | false => x
  | .max => fun _ x y => match iltb x y with | true => y | false => x
  | .lz => fun k x _ => .ofNat (lzN (bitsN k) x.toNat)
  | .tz => fun k x _ => .ofNat (tzN (bitsN k) x.toNat)
  | .pop => fun k x _ => .ofNat (popN (bitsN k) x.toNat)
def IE.den (env : Nat → Int) : IE → Int
  | .c n => n
  | .v i => env i
  | .wrap k a => wrapF k (a.den env)
  | .bin o k a b => o.den k (a.den env) (b.den env)
def BE.den (env : Nat → Int) : BE → Bool
  | .c b => b
  | .lt a b => iltb (a.den env) (b.den env)
  | .le a b => ileb (a.den env) (b.den env)
  | .eq a b => ieqb (a.den env) (b.den env)
  | .not a => !a.den env
/-- A number that is known is worked out at once. -/
def forceI : Int → IE
  | .ofNat n => match n with
    | 0 => .c (.ofNat 0)
    | m + 1 => .c (.ofNat (m + 1))
  | .negSucc n => match n with
    | 0 => .c (.negSucc 0)
    | m + 1 => .c (.negSucc (m + 1))
def mkWrap : IE → IntKind → IE
  | .c n => fun k => forceI (wrapF k n)
  | e => fun k => .wrap k e
def mkBin2 : IE → IOp → IntKind → Int → IE → IE
  | .c y => fun o k x _ => forceI (o.den k x y)
  | b => fun o k _ a => .bin o k a b
def mkBin : IE → IOp → IntKind → IE → IE
  | .c x => fun o k b => mkBin2 b o k x (.c x)
  | a => fun o k b => .bin o k a b
def mkLt2 : IE → Int → IE → BE
  | .c y => fun x _ => .c (iltb x y)
  | b => fun _ a => .lt a b
def mkLt : IE → IE → BE
  | .c x => fun b => mkLt2 b x (.c x)
  | a => fun b => .lt a b
def mkLe2 : IE → Int → IE → BE
  | .c y => fun x _ => .c (ileb x y)
  | b => fun _ a => .le a b
def mkLe : IE → IE → BE
  | .c x => fun b => mkLe2 b x (.c x)
  | a => fun b => .le a b
def iopN : IOp → Nat
  | .add => 0 | .sub => 1 | .mul => 2 | .tdiv => 3 | .tmod => 4 | .shl => 5 | .shr => 6 | .and => 7 | .or => 8 | .xor => 9 | .andNot => 10 | .min => 11 | .max => 12 | .lz => 13 | .tz => 14 | .pop => 15
def IE.beq : IE → IE → Bool
  | .c x, .c y => ieqb x y
  | .v i, .v j => Nat.beq i j
  | .wrap k a, .wrap l b => keq k l && IE.beq a b
  | .bin o k a b, .bin p l a' b' => Nat.beq (iopN o) (iopN p) && keq k l && IE.beq a a' && IE.beq b b'
  | _, _ => false
def mkEq2 : IE → Int → IE → BE
  | .c y => fun x _ => .c (ieqb x y)
  | b => fun _ a => .eq a b
/-- Is it the same number by its form? -/
def eqY (a b : IE) : Bool → BE
  | true => .c true
  | false => .eq a b
def mkEq : IE → IE → BE
  | .c x => fun b => mkEq2 b x (.c x)
  | a => fun b => eqY a b (IE.beq a b)
def mkNot : BE → BE
  | .c b => .c (!b)
  | .not a => a
  | a => .not a

/-! ### Rows told by their runs -/
abbrev RL (α : Type) := List (α × Nat)
namespace RL
variable {α : Type}
def app1 (a b : List α) : List α := List.rec b (fun x _ ih => x :: ih) a
def len (r : RL α) : Nat := List.rec 0 (fun x _ ih => Nat.add x.2 ih) r
def get (r : RL α) : Nat → Option α :=
  List.rec (fun _ => none) (fun x _ ih i => Bool.rec (ih (Nat.sub i x.2)) (some x.1) (Nat.ble (Nat.succ i) x.2)) r
def put (n : Nat) (a : α) (r : RL α) : RL α := Bool.rec ((a, n) :: r) r (Nat.beq n 0)
def set (r : RL α) : Nat → α → RL α :=
  List.rec (fun _ _ => []) (fun y r ih i x => Bool.rec (y :: ih (Nat.sub i y.2) x) (put i y.1 ((x, 1) :: put (Nat.sub (Nat.sub y.2 i) 1) y.1 r)) (Nat.ble (Nat.succ i) y.2)) r
def drop (r : RL α) : Nat → RL α :=
  List.rec (fun _ => []) (fun y r ih k => Bool.rec (ih (Nat.sub k y.2)) ((y.1, Nat.sub y.2 k) :: r) (Nat.ble (Nat.succ k) y.2)) r
def take (r : RL α) : Nat → RL α :=
  List.rec (fun _ => []) (fun y _ ih k => Bool.rec (y :: ih (Nat.sub k y.2)) (put k y.1 []) (Nat.ble (Nat.succ k) y.2)) r
def ofList (l : List α) : RL α := List.rec [] (fun a _ ih => (a, 1) :: ih) l
def reps (n : Nat) (a : α) (r : List α) : List α := Nat.rec r (fun _ ih => a :: ih) n
def toList (r : RL α) : List α := List.rec [] (fun y _ ih => reps y.2 y.1 ih) r
def app (a b : RL α) : RL α := List.rec b (fun x _ ih => x :: ih) a
def rep (n : Nat) : List α → RL α
  | [a] => put n a []
  | l => Nat.rec [] (fun _ acc => app (ofList l) acc) n
end RL

/-! ### Tables -/
inductive Tr (α : Type)
  | nil
  | node (l : Tr α) (v : Option α) (r : Tr α)
namespace Tr
variable {α : Type}
/-- Places are counted from 1. -/
def get1 (t : Tr α) : Nat → Option α :=
  Tr.rec (fun _ => none) (fun _ v _ gl gr n => Bool.rec (Bool.rec (gl (Nat.div n 2)) (gr (Nat.div n 2)) (Nat.beq (Nat.mod n 2) 1)) v (Nat.beq n 1)) t
def path (a : α) (fuel : Nat) : Nat → Tr α :=
  Nat.rec (fun _ => .nil) (fun _ ih n => Bool.rec (Bool.rec (.node (ih (Nat.div n 2)) none .nil) (.node .nil none (ih (Nat.div n 2))) (Nat.beq (Nat.mod n 2) 1)) (.node .nil (some a) .nil) (Nat.beq n 1)) fuel
def set1 (a : α) (t : Tr α) : Nat → Tr α :=
  Tr.rec (fun n => path a n n) (fun l v r sl sr n => Bool.rec (Bool.rec (.node (sl (Nat.div n 2)) v r) (.node l v (sr (Nat.div n 2))) (Nat.beq (Nat.mod n 2) 1)) (.node l (some a) r) (Nat.beq n 1)) t
def get (t : Tr α) (n : Nat) : Option α := get1 t (Nat.succ n)
def set (t : Tr α) (n : Nat) (a : α) : Tr α := set1 a t (Nat.succ n)
def ofList (l : List α) : Nat → Tr α → Tr α :=
  List.rec (fun _ t => t) (fun a _ ih n t => ih (Nat.succ n) (set t n a)) l
end Tr

/-! ### Values -/
inductive V
  | b (e : BE)
  | i (k : IntKind) (e : IE)
  | s (x : RL Nat)
  | p (a : Option (Nat × Nat))
  | sl (a : Option (Nat × Nat)) (len cap : Nat)
  | m (r : Option Nat)
  | fn (f : FuncId) (first captured : List V)
  | nf
  | ni
  | ifc (t : TypeId) (x : V)
  | agg (l : List V)
  | tup (l : List V)
  deriving Inhabited

inductive Ob
  | cells (el : TypeId) (es : Nat) (ex live : Bool) (cs : RL V)
  | map (es : List (V × V))

/-- Which rows an operation read, or wrote. -/
inductive Lg
  | off
  | on (rd wr : Nat)
def addB (m b : Nat) : Nat := Nat.lor (Nat.pow 2 b) m
def Lg.rd (l : Lg) (b : Nat) : Lg := Lg.rec .off (fun r w => .on (addB r b) w) l
def Lg.wr (l : Lg) (b : Nat) : Lg := Lg.rec .off (fun r w => .on r (addB w b)) l
/-- A number that is worked out before it is handed on. -/
def forceN {β : Type} (n : Nat) (k : Nat → β) : β := Nat.rec (k 0) (fun m _ => k (Nat.succ m)) n
/-- The same, handed on: so it is worked out at once. -/
def Lg.rdK {β : Type} (l : Lg) (b : Nat) (k : Lg → β) : β := Lg.rec (k .off) (fun r w => forceN (addB r b) fun r => k (.on r w)) l
def Lg.wrK {β : Type} (l : Lg) (b : Nat) (k : Lg → β) : β := Lg.rec (k .off) (fun r w => forceN (addB w b) fun w => k (.on r w)) l

inductive St
  | mk (heap : Tr Ob) (nx : Nat) (lg : Lg)

/-! ### Operations as trees -/
inductive Pr (α : Type)
  | ret (a : α)
  | bad (why : Nat)
  | cell (b o : Nat) (k : V → Pr α)                          -- one cell
  | setc (b o : Nat) (v : V) (k : Pr α)
  | rows (b lo n : Nat) (k : RL V → Pr α)                    -- so many cells from a place
  | sets (b lo : Nat) (cs : RL V) (k : Pr α)                 -- cells laid from a place on
  | info (b : Nat) (k : Nat → Nat → Bool → Pr α)             -- cells of an element, how many cells, and whether that is known
  | new (o : Ob) (k : Nat → Pr α)
  | kill (b : Nat) (k : Pr α)
  | getM (r : Nat) (k : List (V × V) → Pr α)
  | setM (r : Nat) (es : List (V × V)) (k : Pr α)

/-- New cells laid over a row's, from a place on. -/
def setRL (nw cs : RL V) (lo : Nat) : RL V := RL.app (cs.take lo) (RL.app nw (cs.drop (Nat.add lo nw.len)))

/-- Is it one cell? -/
def oneC : V → Bool
  | .agg _ => false
  | .tup _ => false
  | _ => true
def allOne (r : RL V) : Bool := List.rec true (fun x _ ih => Bool.rec false ih (oneC x.1)) r
/-- Rows below this number are read, not written. -/
abbrev RO : Nat := 64
/-- What comes of a tree. -/
inductive Rs (α : Type)
  | bad
  | ok (a : α) (σ : St)
section run
variable {α : Type}
abbrev RunT (α : Type) := Tr Ob → Nat → Lg → Rs α
def badR : RunT α := fun _ _ _ => .bad
/-- A row that is there and lives: its type, how many cells an element has, whether its length is known, its cells. -/
def asRow {β : Type} (d : β) (k : TypeId → Nat → Bool → RL V → β) (o : Option Ob) : β :=
  Option.rec d (fun o => Ob.rec (fun el es ex live cs => Bool.rec d (k el es ex cs) live) (fun _ => d) o) o
def asMap {β : Type} (d : β) (k : List (V × V) → β) (o : Option Ob) : β :=
  Option.rec d (fun o => Ob.rec (fun _ _ _ _ _ => d) (fun es => k es) o) o
def Pr.run (p : Pr α) : RunT α :=
  Pr.rec (fun a h nx lg => .ok a (.mk h nx lg)) (fun _ => badR)
    (fun b o _ ih h nx lg => asRow .bad (fun _ _ _ cs => Option.rec .bad (fun v => lg.rdK b (ih v h nx)) (cs.get o)) (h.get b))
    (fun b o v _ ih h nx lg => asRow .bad (fun el es ex cs => Bool.rec .bad (Bool.rec .bad (Bool.rec .bad (lg.wrK b (ih (h.set b (.cells el es ex true (cs.set o v))) nx)) (Nat.ble (Nat.succ o) cs.len)) (oneC v)) (Nat.ble RO b)) (h.get b))
    (fun b lo n _ ih h nx lg => asRow .bad (fun _ _ _ cs => Bool.rec .bad (lg.rdK b (ih ((cs.drop lo).take n) h nx)) (Nat.ble (Nat.add lo n) cs.len)) (h.get b))
    (fun b lo nw _ ih h nx lg => asRow .bad (fun el es ex cs => Bool.rec .bad (Bool.rec .bad (Bool.rec .bad (lg.wrK b (ih (h.set b (.cells el es ex true (setRL nw cs lo))) nx)) (Nat.ble (Nat.add lo nw.len) cs.len)) (allOne nw)) (Nat.ble RO b)) (h.get b))
    (fun b _ ih h nx lg => asRow .bad (fun _ es ex cs => lg.rdK b (ih es cs.len ex h nx)) (h.get b))
    (fun o _ ih h nx lg => Option.rec (ih nx (h.set nx o) (Nat.succ nx) lg) (fun _ => .bad) (h.get nx))
    (fun b _ ih h nx lg => asRow .bad (fun el es ex cs => Bool.rec .bad (lg.wrK b (ih (h.set b (.cells el es ex false cs)) nx)) (Nat.ble RO b)) (h.get b))
    (fun r _ ih h nx lg => asMap .bad (fun es => lg.rdK r (ih es h nx)) (h.get r))
    (fun r es _ ih h nx lg => asMap .bad (fun _ => Bool.rec .bad (lg.wrK r (ih (h.set r (.map es)) nx)) (Nat.ble RO r)) (h.get r)) p
end run
def runOn {α : Type} (p : Pr α) (σ : St) : Rs α := St.rec (fun h nx lg => p.run h nx lg) σ

/-! ### Types, as the operations ask for them -/
inductive TK
  | int (k : IntKind)
  | bool | string | pointer (e : TypeId) | slice (e : TypeId) | map (k e : TypeId) | func | iface (empty : Bool)
  | struct (fs : List (TypeId × Nat × Bool))   -- type, offset, is it '_'
  | array (n : Nat) (e : TypeId)
  | other
structure TI where
  k : TK
  size : Nat
  bytes : Nat
  zero : Option V
  ag : Bool
  eq : Bool     -- a struct whose values may be compared, field by field

def ofValues (f : Value → Option V) : List Value → Option (List V)
  | [] => some []
  | x :: r => match f x, ofValues f r with
    | some y, some ys => some (y :: ys)
    | _, _ => none
/-- A value of the model without addresses. -/
def ofValueD : Nat → Value → Option V
  | _, .bool b => some (.b (.c b))
  | _, .int k n => some (.i k (.c n))
  | _, .string s => some (.s (RL.ofList (s.data.toList.map (·.toNat))))
  | _, .pointer none => some (.p none)
  | _, .slice none len cap => some (.sl none len cap)
  | _, .map none => some (.m none)
  | _, .nilFunc => some .nf
  | _, .nilIface => some .ni
  | d + 1, .iface t v => (ofValueD d v).map (.ifc t)
  | d + 1, .agg cs => (ofValues (ofValueD d) cs.toList).map .agg
  | d + 1, .tuple cs => (ofValues (ofValueD d) cs.toList).map .tup
  | _, _ => none
def ofValue : Value → Option V
  | .int k n => some (.i k (.c n))
  | .bool b => some (.b (.c b))
  | v => ofValueD 8 v

def tkOf (p : Program) (t : TypeId) : TK := match p.underlying t with
  | some (.int k) => .int k
  | some .bool => .bool
  | some .string => .string
  | some (.pointer e) => .pointer e
  | some (.slice e) => .slice e
  | some (.map k e) => .map k e
  | some (.func ..) => .func
  | some (.interface ms) => .iface ms.isEmpty
  | some (.struct fs) => .struct (fs.toList.map fun f => (f.type, f.offset, f.name == "_"))
  | some (.array n e) => .array n e
  | _ => .other
def tkAg : TK → Bool
  | .struct _ => true
  | .array _ _ => true
  | _ => false
def eqOf (p : Program) (t : TypeId) : Bool := !p.stoodInHeld t && !p.eqGuardType p.depth t
def tiOf (p : Program) (t : TypeId) (i : TypeInfo) : TI := { k := tkOf p t, size := i.size, bytes := i.bytes, zero := i.zero.bind (ofValueD 8), ag := tkAg (tkOf p t), eq := eqOf p t }
def tabOf (p : Program) : Tr TI := Tr.ofList (p.types.toList.mapIdx fun t i => tiOf p t i) 0 .nil

inductive Fu
  | mk (ntmps : Nat) (results : List ResultVar) (body : Code)
  | sum (g : List (BE × Bool) → List V → Pr V)  -- what a call is known to come to
/-- What a call without arguments is known to come to: a truth value. -/
def constG (b : Bool) : List (BE × Bool) → List V → Pr V := fun _ args => List.rec (.ret (.b (.c b))) (fun _ _ _ => .bad 1) args
def o1P (x : Option V) : Pr V := Option.rec (.bad 2) (fun v => .ret v) x
def fuOf (f : Func) : Option Fu := f.body.map fun b => .mk f.ntmps f.results.toList b
def bodyOf (f : Func) : Code := Option.rec .skip (fun b => b) f.body
def fuFold : List Func → Nat → Tr Fu → Tr Fu
  | [] => fun _ t => t
  | f :: r => fun n t => match fuOf f with
    | some x => fuFold r (n + 1) (Tr.set t n x)
    | none => fuFold r (n + 1) t
def fusOf (p : Program) : Tr Fu := fuFold p.funcs.toList 0 .nil

/-- All that a run does not turn: the types, the functions, what is known of the numbers. -/
structure Cx where
  ty : Tr TI
  fu : Tr Fu
  pc : List (BE × Bool)

/-! ### Decisions -/
def BE.beq : BE → BE → Bool
  | .c x, .c y => x == y
  | .lt a b, .lt a' b' => IE.beq a a' && IE.beq b b'
  | .le a b, .le a' b' => IE.beq a a' && IE.beq b b'
  | .eq a b, .eq a' b' => IE.beq a a' && IE.beq b b'
  | .not a, .not b => BE.beq a b
  | _, _ => false
def known : List (BE × Bool) → BE → Option Bool
  | [], _ => none
  | (x, b) :: r, e => match BE.beq x e with
    | true => some b
    | false => known r e
def decE : BE → List (BE × Bool) → Option Bool
  | .c b => fun _ => some b
  | .not e => fun pc => match known pc e with
    | some b => some (!b)
    | none => known pc (.not e)
  | e => fun pc => known pc e
def Cx.dec (cx : Cx) (e : BE) : Option Bool := decE e cx.pc

/-! ### The operations -/
def tiSize : Option TI → Option Nat
  | some ti => some ti.size
  | none => none
def tsize (cx : Cx) (t : TypeId) : Option Nat := tiSize (cx.ty.get t)
def tiK : Option TI → TK
  | some ti => ti.k
  | none => .other
def tk (cx : Cx) (t : TypeId) : TK := tiK (cx.ty.get t)
def cellsV : V → List V
  | .agg l => l
  | v => [v]
def ofNatI (n : Nat) : V := .i .i64 (.c (.ofNat n))
def asN : V → Option Int
  | .i _ (.c n) => some n
  | _ => none
/-- Between 0 and a bound: the place. -/
def below : Int → Nat → Bool
  | .ofNat m => fun n => Nat.ble (Nat.succ m) n
  | .negSucc _ => fun _ => false
def upto : Int → Nat → Bool
  | .ofNat m => fun n => Nat.ble m n
  | .negSucc _ => fun _ => false

def vload2 : Option TI → Nat → Nat → Pr V
  | some ti => fun b o => match ti.ag with
    | true => .rows b o ti.size fun cs => .ret (.agg cs.toList)
    | false => .cell b o .ret
  | none => fun _ _ => .bad 2
def vload : V → Cx → TypeId → Pr V
  | .p (some a) => fun cx t => vload2 (cx.ty.get t) a.1 a.2
  | _ => fun _ _ => .bad 3
def vstore3 : List V → Nat → Nat → Pr Unit
  | [v] => fun b o => .setc b o v (.ret ())
  | cs => fun b o => .sets b o (RL.ofList cs) (.ret ())
def vstore2 : Option Nat → List V → Nat → Nat → Pr Unit
  | some n => fun cs b o => match Nat.beq n cs.length with
    | true => vstore3 cs b o
    | false => .bad 4
  | none => fun _ _ _ => .bad 5
def vstore : V → Cx → TypeId → V → Pr Unit
  | .p (some a) => fun cx t v => vstore2 (tsize cx t) (cellsV v) a.1 a.2
  | _ => fun _ _ _ => .bad 6
def vnew (t : TypeId) (es : Nat) (cs : RL V) (ex : Bool) (k : Nat → Pr V) : Pr V := .new (.cells t es ex true cs) k
def ptrTo (b : Nat) : Pr V := .ret (.p (some (b, 0)))
def idx2 : Option Nat → Nat → Nat → Nat → Int → Pr V
  | some n => fun b o len i => match below i len with
    | true => .ret (.p (some (b, Nat.add o (Nat.mul i.toNat n))))
    | false => .bad 7
  | none => fun _ _ _ _ => .bad 8
def idxSl : V → Cx → TypeId → Option Int → Pr V
  | .sl (some a) len _ => fun cx e i => match i with
    | some i => idx2 (tsize cx e) a.1 a.2 len i
    | none => .bad 9
  | _ => fun _ _ _ => .bad 10
def idxAr : V → Cx → Nat → TypeId → Option Int → Pr V
  | .p (some a) => fun cx len e i => match i with
    | some i => idx2 (tsize cx e) a.1 a.2 len i
    | none => .bad 9
  | _ => fun _ _ _ _ => .bad 10
def vindexAddr : TK → Cx → V → V → Pr V
  | .slice e => fun cx x ix => idxSl x cx e (asN ix)
  | .array len e => fun cx x ix => idxAr x cx len e (asN ix)
  | _ => fun _ _ _ => .bad 11
def fld : Option Nat → Nat → Nat → Nat → Pr V
  | some (_ + 1) => fun off b o => .ret (.p (some (b, Nat.add o off)))
  | _ => fun _ _ _ => .bad 12
def fldAt : List (TypeId × Nat × Bool) → Nat → Option (TypeId × Nat × Bool)
  | [] => fun _ => none
  | x :: r => fun n => match n with
    | 0 => some x
    | m + 1 => fldAt r m
def fieldAddr2 : Option (TypeId × Nat × Bool) → Cx → Nat → Nat → Pr V
  | some f => fun cx b o => fld (tsize cx f.1) f.2.1 b o
  | none => fun _ _ _ => .bad 13
def fieldAddr1 : V → Cx → Option (TypeId × Nat × Bool) → Pr V
  | .p (some a) => fun cx f => fieldAddr2 f cx a.1 a.2
  | _ => fun _ _ => .bad 14
def vfieldAddr : TK → Cx → V → Nat → Pr V
  | .struct fs => fun cx x f => fieldAddr1 x cx (fldAt fs f)
  | _ => fun _ _ _ => .bad 14
def nth : List V → Nat → Option V
  | [] => fun _ => none
  | x :: r => fun n => match n with
    | 0 => some x
    | m + 1 => nth r m
def retO : Option V → Pr V
  | some v => .ret v
  | none => .bad 15
def vpart : Option TI → List V → Nat → Pr V
  | some ti => fun cs off => match ti.ag with
    | true => .ret (.agg ((cs.drop off).take ti.size))
    | false => retO (nth cs off)
  | none => fun _ _ => .bad 16
def vfield2 : V → Cx → Option (TypeId × Nat × Bool) → Pr V
  | .agg cs => fun cx f => match f with
    | some f => vpart (cx.ty.get f.1) cs f.2.1
    | none => .bad 17
  | _ => fun _ _ => .bad 18
def vfield : TK → Cx → V → Nat → Pr V
  | .struct fs => fun cx x f => vfield2 x cx (fldAt fs f)
  | _ => fun _ _ _ => .bad 18
def fillAt (cs : List V) (off : Nat) (new : List V) : List V := cs.take off ++ new ++ cs.drop (off + new.length)
def fill1 : Option (Nat × Nat) → List V → List V → (List V → Option (List V)) → Option (List V)
  | some p => fun v cs k => match Nat.beq v.length p.2 && Nat.ble (Nat.add p.1 p.2) cs.length with
    | true => k (fillAt cs p.1 v)
    | false => none
  | none => fun _ _ _ => none
def vfill (place : Nat → Option (Nat × Nat)) : List (Nat × V) → List V → Option (List V)
  | [] => fun cs => some cs
  | x :: r => fun cs => fill1 (place x.1) (cellsV x.2) cs (vfill place r)
def placeS (cx : Cx) (fs : List (TypeId × Nat × Bool)) (i : Nat) : Option (Nat × Nat) := match fldAt fs i with
  | some f => match tsize cx f.1 with
    | some n => some (f.2.1, n)
    | none => none
  | none => none
def placeN (n : Nat) (i : Nat) : Option (Nat × Nat) := some (Nat.mul i n, n)
def aggO : Option (List V) → Pr V
  | some cs => .ret (.agg cs)
  | none => .bad 19
def isS {α : Type} : Option α → Bool
  | some _ => true
  | none => false
def allSized (cx : Cx) (fs : List (TypeId × Nat × Bool)) : Bool := List.rec true (fun f _ ih => Bool.rec false ih (isS (tsize cx f.1))) fs
def build2 : TK → Cx → List (Nat × V) → List V → Pr V
  | .struct fs => fun cx parts z => match allSized cx fs with
    | true => aggO (vfill (placeS cx fs) parts z)
    | false => .bad 20
  | .array _ e => fun cx parts z => match tsize cx e with
    | some n => aggO (vfill (placeN n) parts z)
    | none => .bad 21
  | _ => fun _ _ _ => .bad 22
def zeroAgg : Option V → Option (List V)
  | some (.agg z) => some z
  | _ => none
def vbuild : Option TI → Cx → List (Nat × V) → Pr V
  | some ti => fun cx parts => match zeroAgg ti.zero with
    | some z => build2 ti.k cx parts z
    | none => .bad 22
  | none => fun _ _ => .bad 22
def sliceTo (len cap : Nat) (b : Nat) : Pr V := .ret (.sl (some (b, 0)) len cap)
def bsl3 : Option (List V) → TypeId → Nat → Nat → Nat → Pr V
  | some cs => fun e len n zn => match Nat.ble (Nat.mul len n) 65536 && Nat.beq zn n with
    | true => vnew e n (RL.ofList cs) true (sliceTo len len)
    | false => .bad 23
  | none => fun _ _ _ _ => .bad 24
def bsl2 : Option TI → TypeId → Nat → List (Nat × V) → Pr V
  | some ti => fun e len parts => match ti.zero with
    | some z => bsl3 (vfill (placeN ti.size) parts (RL.rep len (cellsV z)).toList) e len ti.size (cellsV z).length
    | none => .bad 25
  | none => fun _ _ _ => .bad 26
def vbuildSlice : TK → Cx → Nat → List (Nat × V) → Pr V
  | .slice e => fun cx len parts => bsl2 (cx.ty.get e) e len parts
  | _ => fun _ _ _ => .bad 27
def mks3 : Option V → TypeId → Nat → Nat → Nat → Pr V
  | some z => fun e n l c => match Nat.beq (cellsV z).length n with
    | true => vnew e n (RL.rep c (cellsV z)) true (sliceTo l c)
    | false => .bad 29
  | none => fun _ _ _ _ => .bad 29
def mks2 : Option TI → TypeId → Int → Int → Pr V
  | some ti => fun e l c => match ileb 0 l && ileb l c && ileb c 1048576 && Nat.ble ti.bytes 4096 with
    | true => mks3 ti.zero e ti.size l.toNat c.toNat
    | false => .bad 28
  | none => fun _ _ _ => .bad 30
def vmakeSlice : TK → Cx → Option Int → Option Int → Pr V
  | .slice e => fun cx l c => match l, c with
    | some l, some c => mks2 (cx.ty.get e) e l c
    | _, _ => .bad 31
  | _ => fun _ _ _ => .bad 31
def optN : Option V → Nat → Option Int
  | none => fun d => some (.ofNat d)
  | some v => fun _ => asN v
/-- Cuts of slices (capacities: what is sure to be there) and of strings. -/
def cutS : Option Int → Option Int → RL Nat → Pr V
  | some l => fun h r => match h with
    | some h => match ileb 0 l && ileb l h && upto h r.len with
      | true => .ret (.s ((r.drop l.toNat).take (Nat.sub h.toNat l.toNat)))
      | false => .bad 32
    | none => .bad 33
  | none => fun _ _ => .bad 33
/-- A slice cut at its begin (l: how many values go; n: cells of a value), of a length and a capacity. -/
def cutA : Option (Nat × Nat) → Nat → Nat → Nat → Nat → Pr V
  | none => fun _ _ len cap => .ret (.sl none len cap)
  | some a => fun l n len cap => match Nat.beq l 0 with
    | true => .ret (.sl (some a) len cap)
    | false => .info a.1 fun es _ _ => match Nat.beq n es with
      | true => .ret (.sl (some (a.1, Nat.add a.2 (Nat.mul l n))) len cap)
      | false => .bad 34
def cutL (a : Option (Nat × Nat)) (cap n : Nat) : Option Int → Option Int → Option Int → Pr V
  | some l, some h, some m => match ileb 0 l && ileb l h && ileb h m && upto m cap with
    | true => cutA a l.toNat n (Nat.sub h.toNat l.toNat) (Nat.sub m.toNat l.toNat)
    | false => .bad 34
  | _, _, _ => .bad 35
def slc : V → Cx → TypeId → Option V → Option V → Option V → Pr V
  | .sl a len cap => fun cx e lo hi mx => match tsize cx e with
    | some n => cutL a cap n (optN lo 0) (optN hi len) (optN mx cap)
    | none => .bad 35
  | _ => fun _ _ _ _ _ => .bad 36
def strc : V → Option V → Option V → Option V → Pr V
  | .s r => fun lo hi mx => match mx with
    | none => cutS (optN lo 0) (optN hi r.len) r
    | some _ => .bad 36
  | _ => fun _ _ _ => .bad 36
def vslice : TK → Cx → V → Option V → Option V → Option V → Pr V
  | .string => fun _ x lo hi mx => strc x lo hi mx
  | .slice e => fun cx x lo hi mx => slc x cx e lo hi mx
  | _ => fun _ _ _ _ _ => .bad 36
/-- An append: the row, its length and capacity, the size of an element. -/
def appMk (e : TypeId) (n len : Nat) (cs : RL V) : Pr V := vnew e n cs false (sliceTo len len)
def appKill (b : Nat) (p : Pr V) : Bool → Pr V
  | true => p
  | false => .kill b p
def app3 (b : Nat) (ok : Bool) (p : Pr V) (ex : Bool) : Pr V := Bool.rec (.bad 38) (appKill b p ex) ok
def app2 : Option (Nat × Nat) → TypeId → Nat → Nat → Nat → Nat → RL V → Pr V
  | none => fun e len _ n m new => match Nat.beq len 0 with
    | true => appMk e n m new
    | false => .bad 37
  | some a => fun e len cap n m new => .rows a.1 a.2 (Nat.mul len n) fun old => .info a.1 fun es sz ex =>
      app3 a.1 ((Nat.beq n es && Nat.ble 1 n) && allOne new) (appMk e n (Nat.add len m) (RL.app old new)) (ex && Nat.beq (Nat.add a.2 (Nat.mul cap n)) sz)
def appPut (base : Option (Nat × Nat)) (len cap n m : Nat) (new : RL V) : Pr V := match base with
  | some a => .sets a.1 (Nat.add a.2 (Nat.mul len n)) new (.ret (.sl base (Nat.add len m) cap))
  | none => .ret (.sl base (Nat.add len m) cap)
/-- m: how many values come; new: their cells. -/
def appGo (e : TypeId) (base : Option (Nat × Nat)) (len cap n m : Nat) (new : RL V) : Pr V := match Nat.ble (Nat.add len m) cap with
  | true => appPut base len cap n m new
  | false => match Nat.ble (Nat.add len m) 1048576 with
    | true => app2 base e len cap n m new
    | false => .bad 37
def u8s : RL Nat → RL V
  | [] => []
  | x :: r => (.i .u8 (.c (.ofNat x.1)), x.2) :: u8s r
def appInt : IE → TypeId → Option (Nat × Nat) → Nat → Nat → Nat → List V → Pr V
  | .c (.ofNat m) => fun e base len cap n z => match Nat.ble m 1048576 with
    | true => appGo e base len cap n m (RL.rep m z)
    | false => .bad 38
  | _ => fun _ _ _ _ _ _ => .bad 38
def isSl : TK → Bool
  | .slice _ => true
  | _ => false
def isSt : TK → Bool
  | .string => true
  | _ => false
def isIn : TK → Bool
  | .int _ => true
  | _ => false
def appX : V → TK → TypeId → Option (Nat × Nat) → Nat → Nat → Nat → List V → Pr V
  | .sl none m _ => fun k e base len cap n _ => match isSl k && Nat.beq m 0 with
    | true => appGo e base len cap n m []
    | false => .bad 39
  | .sl (some a) m _ => fun k e base len cap n _ => match isSl k with
    | true => .rows a.1 a.2 (Nat.mul m n) fun new => appGo e base len cap n m new
    | false => .bad 39
  | .s r => fun k e base len cap n _ => match isSt k && Nat.beq n 1 with
    | true => appGo e base len cap n r.len (u8s r)
    | false => .bad 39
  | .i _ x => fun k e base len cap n z => match isIn k with
    | true => appInt x e base len cap n z
    | false => .bad 39
  | _ => fun _ _ _ _ _ _ _ => .bad 39
def appTI : Option TI → TK → TypeId → V → Option (Nat × Nat) → Nat → Nat → Pr V
  | some ti => fun k e x base len cap => match ti.zero with
    | some z => match Nat.ble ti.bytes 4096 && Nat.beq (cellsV z).length ti.size with
      | true => appX x k e base len cap ti.size (cellsV z)
      | false => .bad 40
    | none => .bad 40
  | none => fun _ _ _ _ _ _ => .bad 41
def appS : V → Cx → TK → TypeId → V → Pr V
  | .sl base len cap => fun cx k e x => appTI (cx.ty.get e) k e x base len cap
  | _ => fun _ _ _ _ => .bad 42
/-- The kinds of the two arguments first. -/
def vappend : TK → TK → Cx → V → V → Pr V
  | .slice e => fun k cx s x => appS s cx k e x
  | _ => fun _ _ _ _ => .bad 42
def cpPut : Option (Nat × Nat) → Nat → RL V → Pr V
  | some a => fun k cs => .sets a.1 a.2 cs (.ret (ofNatI k))
  | none => fun k _ => .ret (ofNatI k)
def cpFrom : V → Option (Nat × Nat) → Nat → Nat → Pr V
  | .sl none sl _ => fun base dl _ => cpPut base (Nat.min sl dl) []
  | .sl (some a) sl _ => fun base dl n => .rows a.1 a.2 (Nat.min sl dl * n) fun cs => cpPut base (Nat.min sl dl) cs
  | .s r => fun base dl _ => cpPut base (Nat.min r.len dl) (u8s (r.take (Nat.min r.len dl)))
  | _ => fun _ _ _ => .bad 44
def cpS : V → Cx → TypeId → V → Pr V
  | .sl base dl _ => fun cx e s => match tsize cx e with
    | some n => cpFrom s base dl n
    | none => .bad 45
  | _ => fun _ _ _ => .bad 46
def vcopy : TK → Cx → V → V → Pr V
  | .slice e => fun cx d s => cpS d cx e s
  | _ => fun _ _ _ => .bad 46
def constBytes : RL V → Option (RL Nat)
  | [] => some []
  | (.i .u8 (.c (.ofNat n)), k) :: r => match Nat.ble n 255 with
    | true => match constBytes r with
      | some x => some ((n, k) :: x)
      | none => none
    | false => none
  | _ => none
def sameRL : Nat → RL Nat → RL Nat → Bool
  | 0, _, _ => false
  | _ + 1, [], [] => true
  | f + 1, x :: r, y :: s => match Nat.beq x.1 y.1 with
    | true => match Nat.beq x.2 y.2 with
      | true => sameRL f r s
      | false => match Nat.blt x.2 y.2 with
        | true => sameRL f r ((y.1, y.2 - x.2) :: s)
        | false => sameRL f ((x.1, x.2 - y.2) :: r) s
    | false => false
  | _ + 1, _, _ => false
def noNil : RL Nat → RL Nat
  | [] => []
  | x :: r => match Nat.beq x.2 0 with
    | true => noNil r
    | false => x :: noNil r
def sameStr (a b : RL Nat) : Bool := match Nat.beq a.len b.len with
  | true => sameRL (a.length + b.length + 1) (noNil a) (noNil b)
  | false => false
/-- Two places in one row; n: cells of what lies there. -/
def eqSame : Option Nat → Nat → Nat → Option BE
  | some n => fun o p => match Nat.beq o p with
    | true => some (.c true)
    | false => match Nat.beq n 0 with
      | true => none
      | false => some (.c false)
  | none => fun _ _ => none
def noneB {α : Type} : Option α → Bool
  | none => true
  | some _ => false
def eqA : Option (Nat × Nat) → Option Nat → Option (Nat × Nat) → Option BE
  | none => fun _ b => some (.c (noneB b))
  | some a => fun n b => match b with
    | none => some (.c false)
    | some b => match Nat.beq a.1 b.1 with
      | true => eqSame n a.2 b.2
      | false => none
def eqNil {α : Type} : Option α → Option α → Option BE
  | none => fun b => some (.c (noneB b))
  | some _ => fun b => match b with
    | none => some (.c false)
    | some _ => none
def eqI : V → IntKind → IE → Option BE
  | .i l b => fun k a => match keq k l with
    | true => some (mkEq a b)
    | false => none
  | _ => fun _ _ => none
def eqS : V → RL Nat → Option BE
  | .s b => fun a => some (.c (sameStr a b))
  | _ => fun _ => none
def eqWith : BE → Bool → BE
  | e => fun b => match b with
    | true => e
    | false => mkNot e
def eqB2 : BE → BE → Option BE
  | .c a => fun b => some (eqWith b a)
  | a => fun b => match b with
    | .c b => some (eqWith a b)
    | _ => none
def eqBB : V → V → Option BE
  | .b a => fun y => match y with
    | .b b => eqB2 a b
    | _ => none
  | _ => fun _ => none
def eqPP : V → Option Nat → V → Option BE
  | .p a => fun n y => match y with
    | .p b => eqA a n b
    | _ => none
  | _ => fun _ _ => none
def eqSl : V → V → Option BE
  | .sl a _ _ => fun y => match y with
    | .sl b _ _ => eqNil a b
    | _ => none
  | _ => fun _ => none
def eqMM : V → V → Option BE
  | .m a => fun y => match y with
    | .m b => eqNil a b
    | _ => none
  | _ => fun _ => none
def eqIf (ok : Bool) : V → V → Option BE
  | .ni => fun y => match y with
    | .ni => match ok with
      | true => some (.c true)
      | false => none
    | .ifc _ _ => some (.c false)
    | _ => none
  | .ifc _ _ => fun y => match y with
    | .ni => some (.c false)
    | _ => none
  | _ => fun _ => none
def eqFn : V → V → Option BE
  | .nf => fun y => match y with
    | .nf => some (.c true)
    | .fn .. => some (.c false)
    | _ => none
  | .fn .. => fun y => match y with
    | .nf => some (.c false)
    | _ => none
  | _ => fun _ => none
/-- Keys: numbers and strings. -/
def keyEq : V → V → Option BE
  | .i k a => fun y => eqI y k a
  | .s a => fun y => eqS y a
  | _ => fun _ => none
/-- Equality by the type; cst: is one of the two a constant? -/
def veq : TK → Cx → Bool → V → V → Option BE
  | .bool => fun _ _ x y => eqBB x y
  | .pointer e => fun cx _ x y => eqPP x (tsize cx e) y
  | .slice _ => fun _ _ x y => eqSl x y
  | .map _ _ => fun _ _ x y => eqMM x y
  | .iface em => fun _ cst x y => eqIf (em || cst) x y
  | .func => fun _ _ x y => eqFn x y
  | _ => fun _ _ _ _ => none
/-- Both. -/
def andB2 : BE → BE → Option BE
  | .c b => fun a => match b with
    | true => some a
    | false => some (.c false)
  | _ => fun _ => none
def andBE : BE → BE → Option BE
  | .c b => fun e => match b with
    | true => some e
    | false => some (.c false)
  | a => fun b => andB2 b a
def andO : Option BE → Option BE → Option BE
  | some a => fun b => match b with
    | some b => andBE a b
    | none => none
  | none => fun _ => none
def fieldEq : TK → V → V → Option BE
  | .int _ => fun x y => match x with
    | .i k a => eqI y k a
    | _ => none
  | .bool => fun x y => eqBB x y
  | .string => fun x y => match x with
    | .s a => eqS y a
    | _ => none
  | _ => fun _ _ => none
def fieldEqO (k : TK) : Option V → Option V → Option BE
  | some x => fun y => match y with
    | some y => fieldEq k x y
    | none => none
  | none => fun _ => none
def eqFs (cx : Cx) : List (TypeId × Nat × Bool) → List V → List V → Option BE
  | [] => fun _ _ => some (.c true)
  | f :: r => fun xs ys => match f.2.2 with
    | true => none
    | false => andO (fieldEqO (tk cx f.1) (nth xs f.2.1) (nth ys f.2.1)) (eqFs cx r xs ys)
def eqSt : TK → Cx → List V → V → Option BE
  | .struct fs => fun cx xs y => match y with
    | .agg ys => eqFs cx fs xs ys
    | _ => none
  | _ => fun _ _ _ => none
def tiEq : Option TI → Bool
  | some ti => ti.eq
  | none => false
def eqStO (ok : Bool) (k : TK) (cx : Cx) (xs : List V) (y : V) : Option BE := match ok with
  | true => eqSt k cx xs y
  | false => none
def retB : Option BE → Pr V
  | some e => .ret (.b e)
  | none => .bad 56
def retNB : Option BE → Pr V
  | some e => .ret (.b (mkNot e))
  | none => .bad 57
def divI : IE → IntKind → IE → Pr V
  | .c n => fun k a => match ieqb n 0 with
    | true => .bad 51
    | false => .ret (.i k (mkWrap (mkBin a .tdiv k (.c n)) k))
  | _ => fun _ _ => .bad 52
def remI : IE → IntKind → IE → Pr V
  | .c n => fun k a => match ieqb n 0 with
    | true => .bad 53
    | false => .ret (.i k (mkBin a .tmod k (.c n)))
  | _ => fun _ _ => .bad 54
def shlI : IE → IntKind → IE → Pr V
  | .c n => fun k a => match ileb 0 n with
    | true => .ret (.i k (mkWrap (mkBin a .shl k (.c n)) k))
    | false => .bad 48
  | _ => fun _ _ => .bad 48
def shrI : IE → IntKind → IE → Pr V
  | .c n => fun k a => match ileb 0 n with
    | true => .ret (.i k (mkBin a .shr k (.c n)))
    | false => .bad 49
  | _ => fun _ _ => .bad 49
def binI : BinOp → IntKind → IE → IE → Pr V
  | .add => fun k a b => .ret (.i k (mkWrap (mkBin a .add k b) k))
  | .sub => fun k a b => .ret (.i k (mkWrap (mkBin a .sub k b) k))
  | .mul => fun k a b => .ret (.i k (mkWrap (mkBin a .mul k b) k))
  | .quo => fun k a b => divI b k a
  | .rem => fun k a b => remI b k a
  | .and => fun k a b => .ret (.i k (mkBin a .and k b))
  | .or => fun k a b => .ret (.i k (mkBin a .or k b))
  | .xor => fun k a b => .ret (.i k (mkBin a .xor k b))
  | .andNot => fun k a b => .ret (.i k (mkBin a .andNot k b))
  | .eql => fun _ a b => .ret (.b (mkEq a b))
  | .neq => fun _ a b => .ret (.b (mkNot (mkEq a b)))
  | .lss => fun _ a b => .ret (.b (mkLt a b))
  | .leq => fun _ a b => .ret (.b (mkLe a b))
  | .gtr => fun _ a b => .ret (.b (mkLt b a))
  | .geq => fun _ a b => .ret (.b (mkLe b a))
  | _ => fun _ _ _ => .bad 55
def shiftI : BinOp → IntKind → IE → IE → Pr V
  | .shl => fun k a b => shlI b k a
  | .shr => fun k a b => shrI b k a
  | _ => fun _ _ _ => .bad 50
def binII (op : BinOp) (k : IntKind) (a : IE) (l : IntKind) (b : IE) : Pr V := match op with
  | .shl => shlI b k a
  | .shr => shrI b k a
  | op => match keq k l with
    | true => binI op k a b
    | false => .bad 50
def binInt : V → BinOp → IntKind → IE → Pr V
  | .i l b => fun op k a => binII op k a l b
  | _ => fun _ _ _ => .bad 58
/-- Is it a number that is known? -/
def isC : IE → Bool
  | .c _ => true
  | _ => false
/-- Shifts by what is known to be no less than nought; quotients by what is known not to be nought. -/
def shlY : Option Bool → IntKind → IE → IE → Pr V
  | some true => fun k a b => .ret (.i k (mkWrap (mkBin a .shl k b) k))
  | _ => fun _ _ _ => .bad 48
def shrY : Option Bool → IntKind → IE → IE → Pr V
  | some true => fun k a b => .ret (.i k (mkBin a .shr k b))
  | _ => fun _ _ _ => .bad 49
def divY : Option Bool → IntKind → IE → IE → Pr V
  | some false => fun k a b => .ret (.i k (mkWrap (mkBin a .tdiv k b) k))
  | _ => fun _ _ _ => .bad 52
def remY : Option Bool → IntKind → IE → IE → Pr V
  | some false => fun k a b => .ret (.i k (mkBin a .tmod k b))
  | _ => fun _ _ _ => .bad 54
def sameK {α : Type} (d : α) (x : α) : Bool → α
  | true => x
  | false => d
def binY (op : BinOp) (k : IntKind) (a : IE) (l : IntKind) (b : IE) (cx : Cx) : Pr V := match op with
  | .shl => shlY (cx.dec (.le (.c (.ofNat 0)) b)) k a b
  | .shr => shrY (cx.dec (.le (.c (.ofNat 0)) b)) k a b
  | .quo => sameK (.bad 50) (divY (cx.dec (.eq b (.c (.ofNat 0)))) k a b) (keq k l)
  | .rem => sameK (.bad 50) (remY (cx.dec (.eq b (.c (.ofNat 0)))) k a b) (keq k l)
  | op => binII op k a l b
def binZ (op : BinOp) (k : IntKind) (a : IE) (l : IntKind) (b : IE) (cx : Cx) : Bool → Pr V
  | true => binII op k a l b
  | false => binY op k a l b cx
def binX : V → BinOp → IntKind → IE → Cx → Pr V
  | .i l b => fun op k a cx => binZ op k a l b cx (isC b)
  | _ => fun _ _ _ _ => .bad 58
def binStr : BinOp → RL Nat → V → Pr V
  | .add => fun a y => match y with
    | .s b => match Nat.ble (Nat.add a.len b.len) 1073741824 with
      | true => .ret (.s (RL.app a b))
      | false => .bad 58
    | _ => .bad 58
  | .eql => fun a y => retB (eqS y a)
  | .neq => fun a y => retNB (eqS y a)
  | _ => fun _ _ => .bad 58
def binOther : BinOp → Option BE → Pr V
  | .eql => retB
  | .neq => retNB
  | _ => fun _ => .bad 58
def vbin : V → BinOp → V → TK → Cx → Bool → Pr V
  | .i k a => fun op y _ cx _ => binX y op k a cx
  | .s a => fun op y _ _ _ => binStr op a y
  | x => fun op y k cx cst => binOther op (veq k cx cst x y)
/-- With structs. -/
def vbinG : V → BinOp → V → TypeId → Cx → Bool → Pr V
  | .agg xs => fun op y t cx _ => binOther op (eqStO (tiEq (cx.ty.get t)) (tk cx t) cx xs y)
  | x => fun op y t cx cst => vbin x op y (tk cx t) cx cst
def unI : UnOp → IntKind → IE → Pr V
  | .neg => fun k a => .ret (.i k (mkWrap (mkBin (.c 0) .sub k a) k))
  | .xor => fun k a => .ret (.i k (mkBin (.c (match sgn k with | true => -1 | false => .ofNat (two k - 1))) .xor k a))
  | _ => fun _ _ => .bad 59
def unB : UnOp → BE → Pr V
  | .not => fun e => .ret (.b (mkNot e))
  | _ => fun _ => .bad 59
def vun : V → UnOp → Pr V
  | .i k a => fun op => unI op k a
  | .b e => fun op => unB op e
  | _ => fun _ => .bad 59
def bytesO : Option (RL Nat) → Pr V
  | some r => .ret (.s r)
  | none => .bad 60
def slStr : TK → Option (Nat × Nat) → Nat → Pr V
  | .int .u8 => fun a n => match a with
    | none => .ret (.s [])
    | some a => .rows a.1 a.2 n fun cs => bytesO (constBytes cs)
  | _ => fun _ _ => .bad 61
def convSl : V → TK → Pr V
  | .sl a n _ => fun k => slStr k a n
  | _ => fun _ => .bad 61
def convS2 : TK → Cx → V → Pr V
  | .slice e => fun cx x => convSl x (tk cx e)
  | .string => fun _ x => match x with
    | .s r => .ret (.s r)
    | _ => .bad 62
  | _ => fun _ _ => .bad 62
def convI : V → IntKind → Pr V
  | .i _ e => fun k => .ret (.i k (mkWrap e k))
  | _ => fun _ => .bad 62
/-- string to []byte: a new row, whose capacity is not known. -/
def convB : V → TypeId → TK → Pr V
  | .s r => fun e k => match k with
    | .int .u8 => vnew e 1 (u8s r) false (sliceTo r.len r.len)
    | _ => .bad 62
  | _ => fun _ _ => .bad 62
def vconvert : TK → Cx → TypeId → V → Pr V
  | .int k => fun cx src x => match isS (cx.ty.get src) with
    | true => convI x k
    | false => .bad 62
  | .string => fun cx src x => convS2 (tk cx src) cx x
  | .slice e => fun cx src x => match tk cx src with
    | .string => convB x e (tk cx e)
    | _ => .bad 62
  | _ => fun _ _ _ => .bad 62
def findM (k : V) : List (V × V) → Nat → Option (Option (Nat × V))
  | [], _ => some none
  | (x, v) :: r, i => match keyEq k x with
    | some (.c true) => some (some (i, v))
    | some (.c false) => findM k r (i + 1)
    | _ => none
def isI : V → Bool
  | .i _ _ => true
  | _ => false
def isStr : V → Bool
  | .s _ => true
  | _ => false
def keyFits : TK → V → Bool
  | .int _ => isI
  | .string => isStr
  | _ => fun _ => false
def lkOut : Bool → V → Bool → Pr V
  | true => fun v is => .ret (.tup [v, .b (.c is)])
  | false => fun v _ => .ret v
def lkFound : Option (Option (Nat × V)) → V → Bool → Pr V
  | some (some x) => fun _ ok => lkOut ok x.2 true
  | some none => fun z ok => lkOut ok z false
  | none => fun _ _ => .bad 63
def lkM : V → V → V → Bool → Pr V
  | .m none => fun z _ ok => lkOut ok z false
  | .m (some r) => fun z ix ok => .getM r fun es => lkFound (findM ix es 0) z ok
  | _ => fun _ _ _ => .bad 64
def tiZero : Option TI → Option V
  | some ti => ti.zero
  | none => none
def vlookup : TK → Cx → V → V → Bool → Pr V
  | .map k e => fun cx x ix ok => match tiZero (cx.ty.get e) with
    | some z => match keyFits (tk cx k) ix with
      | true => lkM x z ix ok
      | false => .bad 65
    | none => .bad 65
  | _ => fun _ _ _ _ => .bad 66
def setAt : List (V × V) → Nat → V → V → List (V × V)
  | [], _, _, _ => []
  | _ :: r, 0, k, v => (k, v) :: r
  | x :: r, n + 1, k, v => x :: setAt r n k v
def muFound : Option (Option (Nat × V)) → Nat → List (V × V) → V → V → Pr Unit
  | some (some x) => fun r es k v => .setM r (setAt es x.1 k v) (.ret ())
  | some none => fun r es k v => .setM r (es ++ [(k, v)]) (.ret ())
  | none => fun _ _ _ _ => .bad 67
def muM : V → V → V → Pr Unit
  | .m (some r) => fun k v => .getM r fun es => muFound (findM k es 0) r es k v
  | _ => fun _ _ => .bad 68
def vmapUpdate : TK → Cx → V → V → V → Pr Unit
  | .map k _ => fun cx m key x => match keyFits (tk cx k) key with
    | true => muM m key x
    | false => .bad 68
  | _ => fun _ _ _ _ => .bad 68
def eraseAt : List (V × V) → Nat → List (V × V)
  | [], _ => []
  | _ :: r, 0 => r
  | x :: r, n + 1 => x :: eraseAt r n
def delFound : Option (Option (Nat × V)) → Nat → List (V × V) → Pr V
  | some (some x) => fun r es => .setM r (eraseAt es x.1) (.ret (.tup []))
  | some none => fun r es => .setM r es (.ret (.tup []))
  | none => fun _ _ => .bad 67
def delM : V → V → Pr V
  | .m none => fun _ => .ret (.tup [])
  | .m (some r) => fun k => .getM r fun es => delFound (findM k es 0) r es
  | _ => fun _ => .bad 68
def vdelete : TK → Cx → V → V → Pr V
  | .map k _ => fun cx m key => match keyFits (tk cx k) key with
    | true => delM m key
    | false => .bad 68
  | _ => fun _ _ _ => .bad 68
def lenM : V → Pr V
  | .m none => .ret (ofNatI 0)
  | .m (some r) => .getM r fun es => .ret (ofNatI es.length)
  | _ => .bad 69
def lenS : V → Pr V
  | .s r => .ret (ofNatI r.len)
  | _ => .bad 69
def lenSl : V → Pr V
  | .sl _ n _ => .ret (ofNatI n)
  | _ => .bad 69
def vlen : TK → V → Pr V
  | .slice _ => lenSl
  | .string => lenS
  | .array n _ => fun _ => .ret (ofNatI n)
  | .map _ _ => lenM
  | _ => fun _ => .bad 69
def capSl : V → Option Nat → Pr V
  | .sl none _ c => fun _ => .ret (ofNatI c)
  | .sl (some a) _ c => fun n => match n with
    | some n => .info a.1 fun es sz ex => match (Nat.beq n es && Nat.ble 1 n) && (ex && Nat.beq (Nat.add a.2 (Nat.mul c n)) sz) with
      | true => .ret (ofNatI c)
      | false => .bad 70
    | none => .bad 71
  | _ => fun _ => .bad 72
def vcap : TK → Cx → V → Pr V
  | .slice e => fun cx x => capSl x (tsize cx e)
  | _ => fun _ _ => .bad 72
/-- A slice's values are noughts again. -/
def clrS : Option V → Nat → Nat → Nat → Pr V
  | some z => fun b o n => .sets b o (RL.rep n (cellsV z)) (.ret (.tup []))
  | none => fun _ _ _ => .bad 73
def clrN (z : Option V) (b o : Nat) : Nat → Pr V
  | 0 => .ret (.tup [])
  | n + 1 => clrS z b o (n + 1)
def clrSl : V → Cx → TypeId → Pr V
  | .sl none _ _ => fun _ _ => .ret (.tup [])
  | .sl (some a) n _ => fun cx e => clrN (tiZero (cx.ty.get e)) a.1 a.2 n
  | _ => fun _ _ => .bad 74
def vclear : TK → Cx → V → Pr V
  | .slice e => fun cx x => clrSl x cx e
  | _ => fun _ _ => .bad 75
def vmin2 : V → V → IOp → Option V
  | .i k a => fun y o => match y with
    | .i l b => match keq k l with
      | true => some (.i k (mkBin a o k b))
      | false => none
    | _ => none
  | _ => fun _ _ => none
def vmin (o : IOp) : List V → Option V
  | [] => none
  | x :: r => match r with
    | [] => some x
    | y :: r => match r with
      | [] => vmin2 x y o
      | _ => none

/-- What an operation is: a value at once, a tree, a call. -/
inductive Act
  | bad (why : Nat)
  | val (x : V)
  | pv (p : Pr V)
  | pu (p : Pr Unit)
  | call (f : FuncId) (args : List V)

def undefV : V := .tup []

abbrev Tm := Tr V
def orU (x : Option V) : V := Option.rec undefV (fun v => v) x
/-- An operand's value; what has none counts as nothing. -/
def Tm.ev (x : Operand) : Tm → Option V :=
  Operand.rec (fun i t => some (orU (t.get i))) (fun v _ => ofValue v) (fun _ _ => none) (fun f _ => some (.fn f [] [])) x
def evs (t : Tm) : List Operand → Option (List V)
  | [] => some []
  | x :: r => match Tm.ev x t with
    | some v => match evs t r with
      | some vs => some (v :: vs)
      | none => none
    | none => none
def evp (t : Tm) : List (Nat × Operand) → Option (List (Nat × V))
  | [] => some []
  | x :: r => match Tm.ev x.2 t with
    | some v => match evp t r with
      | some vs => some ((x.1, v) :: vs)
      | none => none
    | none => none
def evo (t : Tm) : Option Operand → Option (Option V)
  | none => some none
  | some x => match Tm.ev x t with
    | some v => some (some v)
    | none => none
def o1 (x : Option V) (k : V → Act) : Act := Option.rec (.bad 80) k x
/-- What an operation comes to: it hands on to what is done with it. -/
abbrev OpT := Cx → Tm → Act
abbrev vx (p : Pr V) : Act := .pv p
abbrev ux (p : Pr Unit) : Act := .pu p
abbrev retX (x : V) : Act := .val x
def opMove (x : Operand) : OpT := fun _ t => o1 (Tm.ev x t) retX
def pickD : Option Bool → Option V → Option V → Act
  | some true => fun a _ => o1 a retX
  | some false => fun _ b => o1 b retX
  | none => fun _ _ => .bad 81
def pickV : V → Cx → Option V → Option V → Act
  | .b e => fun cx a b => pickD (cx.dec e) a b
  | _ => fun _ _ _ => .bad 82
def opPick (c a b : Operand) : OpT := fun cx t => o1 (Tm.ev c t) fun c => pickV c cx (Tm.ev a t) (Tm.ev b t)
def allocZ : Option V → TypeId → Pr V
  | some z => fun e => vnew e 1 (RL.ofList (cellsV z)) true ptrTo
  | none => fun _ => .bad 83
def opAlloc (e : TypeId) : OpT := fun cx _ => vx (allocZ (tiZero (cx.ty.get e)) e)
def opBox (e : TypeId) (x : Operand) : OpT := fun _ t => o1 (Tm.ev x t) fun x => vx (vnew e 1 (RL.ofList (cellsV x)) true ptrTo)
def op1 {α : Type} (x : Option α) (k : α → Act) : Act := Option.rec (.bad 84) k x
def opBuild (ty : TypeId) (ps : Array (Nat × Operand)) : OpT := fun cx t => op1 (evp t ps.toList) fun ps => vx (vbuild (cx.ty.get ty) cx ps)
def opBuildSlice (ty : TypeId) (len : Nat) (ps : Array (Nat × Operand)) : OpT := fun cx t => op1 (evp t ps.toList) fun ps => vx (vbuildSlice (tk cx ty) cx len ps)
def opLoad (ty : TypeId) (a : Operand) : OpT := fun cx t => o1 (Tm.ev a t) fun a => vx (vload a cx ty)
def opStore (ty : TypeId) (a x : Operand) : OpT := fun cx t => o1 (Tm.ev a t) fun a => o1 (Tm.ev x t) fun x => ux (vstore a cx ty x)
def nilCk : V → Act
  | .p (some a) => .val (.p (some a))
  | _ => .bad 86
def opNil (x : Operand) : OpT := fun _ t => o1 (Tm.ev x t) nilCk
def cstO : Operand → Bool
  | .const _ => true
  | _ => false
def opBin (op : BinOp) (ty : TypeId) (x y : Operand) : OpT := fun cx t => o1 (Tm.ev x t) fun a => o1 (Tm.ev y t) fun b => vx (vbinG a op b ty cx (cstO x || cstO y))
def opUn (op : UnOp) (x : Operand) : OpT := fun _ t => o1 (Tm.ev x t) fun x => vx (vun x op)
def opConv (s d : TypeId) (x : Operand) : OpT := fun cx t => o1 (Tm.ev x t) fun x => vx (vconvert (tk cx d) cx s x)
def plainK : TK → Bool
  | .iface _ => false
  | .other => false
  | _ => true
def ifaceA : Bool → V → Act
  | true => retX
  | false => fun _ => .bad 87
def opIface (ty : TypeId) (x : Operand) : OpT := fun cx t => o1 (Tm.ev x t) fun x => ifaceA (plainK (tk cx ty)) (.ifc ty x)
def opFunc (f : FuncId) (a b : Array Operand) : OpT := fun _ t => op1 (evs t a.toList) fun a => op1 (evs t b.toList) fun b => retX (.fn f a b)
def mapTo (r : Nat) : Pr V := .ret (.m (some r))
def opMakeMap : OpT := fun _ _ => vx (.new (.map []) mapTo)
def opMakeSlice (ty : TypeId) (l c : Operand) : OpT := fun cx t => o1 (Tm.ev l t) fun l => o1 (Tm.ev c t) fun c => vx (vmakeSlice (tk cx ty) cx (asN l) (asN c))
def mxOk : Option V → Option V → Bool
  | none => fun _ => true
  | some _ => isS
def mxIf : Bool → Pr V → Pr V
  | true => fun p => p
  | false => fun _ => .bad 36
def opSlice (ty : TypeId) (x : Operand) (lo hi mx : Option Operand) : OpT := fun cx t => o1 (Tm.ev x t) fun x =>
  op1 (evo t lo) fun lo => op1 (evo t hi) fun hi => op1 (evo t mx) fun mx => vx (mxIf (mxOk mx hi) (vslice (tk cx ty) cx x lo hi mx))
def opFieldAddr (ty : TypeId) (x : Operand) (f : Nat) : OpT := fun cx t => o1 (Tm.ev x t) fun x => vx (vfieldAddr (tk cx ty) cx x f)
def opField (ty : TypeId) (x : Operand) (f : Nat) : OpT := fun cx t => o1 (Tm.ev x t) fun x => vx (vfield (tk cx ty) cx x f)
def opIndexAddr (ty : TypeId) (x i : Operand) : OpT := fun cx t => o1 (Tm.ev x t) fun x => o1 (Tm.ev i t) fun i => vx (vindexAddr (tk cx ty) cx x i)
def opLookup (ty : TypeId) (x i : Operand) (ok : Bool) : OpT := fun cx t => o1 (Tm.ev x t) fun x => o1 (Tm.ev i t) fun i => vx (vlookup (tk cx ty) cx x i ok)
def opMapUpd (ty : TypeId) (m k x : Operand) : OpT := fun cx t => o1 (Tm.ev m t) fun m => o1 (Tm.ev k t) fun k => o1 (Tm.ev x t) fun x => ux (vmapUpdate (tk cx ty) cx m k x)
def extrV : V → Nat → Act
  | .tup l => fun i => match nth l i with
    | some v => .val v
    | none => .bad 92
  | _ => fun _ => .bad 93
def opExtract (x : Operand) (i : Nat) : OpT := fun _ t => o1 (Tm.ev x t) fun x => extrV x i
def callV : V → List V → Act
  | .fn g first cap => fun args => .call g (RL.app1 first (RL.app1 args cap))
  | _ => fun _ => .bad 95
def biApp : List TypeId → List V → Cx → Act
  | s :: x :: _ => fun l cx => match l with
    | [a, b] => vx (vappend (tk cx s) (tk cx x) cx a b)
    | _ => .bad 96
  | _ => fun _ _ => .bad 96
def bi2 (f : TK → Cx → V → V → Pr V) : List TypeId → List V → Cx → Act
  | s :: _ => fun l cx => match l with
    | [a, b] => vx (f (tk cx s) cx a b)
    | _ => .bad 96
  | _ => fun _ _ => .bad 96
def bi1 (f : TK → Cx → V → Pr V) : List TypeId → List V → Cx → Act
  | s :: _ => fun l cx => match l with
    | [a] => vx (f (tk cx s) cx a)
    | _ => .bad 97
  | _ => fun _ _ => .bad 97
def builtinV : Builtin → List TypeId → List V → Cx → Act
  | .append => biApp
  | .copy => bi2 vcopy
  | .len => bi1 fun k _ x => vlen k x
  | .cap => bi1 vcap
  | .clear => bi1 vclear
  | .delete => bi2 vdelete
  | .min => fun _ l _ => o1 (vmin .min l) retX
  | .max => fun _ l _ => o1 (vmin .max l) retX
  | _ => fun _ _ _ => .bad 98
def calleeV : Callee → List TypeId → List V → Cx → Tm → Act
  | .value f => fun _ args _ t => o1 (Tm.ev f t) fun f => callV f args
  | .builtin b => fun tys args cx _ => builtinV b tys args cx
  | _ => fun _ _ _ _ => .bad 99
def opCall (c : Call) : OpT := fun cx t => op1 (evs t c.args.toList) fun args => calleeV c.callee c.argTypes.toList args cx t
def opFunc1 : Fn → Array Operand → Array Operand → OpT
  | .func f => fun a b => opFunc f a b
  | _ => fun _ _ _ _ => .bad 90
def opMM : Option Operand → OpT
  | none => opMakeMap
  | some _ => fun _ _ => .bad 90
/-- One operation. -/
def vop0 : Op → OpT
  | .move x => opMove x
  | .assign x => opMove x
  | .pick c a b => opPick c a b
  | .alloc e => opAlloc e
  | .box e x => opBox e x
  | .build ty ps => opBuild ty ps
  | .buildSlice ty len ps => opBuildSlice ty len ps
  | .load ty a => opLoad ty a
  | .store ty a x => opStore ty a x
  | .nilCheck x => opNil x
  | .binOp op ty x y _ => opBin op ty x y
  | .unOp op _ x => opUn op x
  | .convert s d x => opConv s d x
  | .makeInterface ty x => opIface ty x
  | .makeFunc f a b => opFunc1 f a b
  | .makeMap _ r => opMM r
  | .makeSlice ty l c => opMakeSlice ty l c
  | .slice ty x lo hi mx => opSlice ty x lo hi mx
  | .fieldAddr ty x f => opFieldAddr ty x f
  | .field ty x f => opField ty x f
  | .indexAddr ty x i => opIndexAddr ty x i
  | .lookup ty x i ok => opLookup ty x i ok
  | .mapUpdate ty m k x => opMapUpd ty m k x
  | .insert ty m k x => opMapUpd ty m k x
  | .extract x i => opExtract x i
  | .call c => opCall c
  | _ => fun _ _ => .bad 100

/-! ### What is known of a number, or of a truth value, is put in its place -/
def valOf : List (BE × Bool) → IE → Option Int
  | [], _ => none
  | x :: r, e => match x with
    | (.eq a (.c n), true) => match IE.beq a e with
      | true => some n
      | false => valOf r e
    | _ => valOf r e
def nrmI (k : IntKind) (e : IE) : Option Int → V
  | some n => .i k (.c n)
  | none => .i k e
def nrmB (e : BE) : Option Bool → V
  | some b => .b (.c b)
  | none => .b e
def nrmV : V → List (BE × Bool) → V
  | .i k e => fun pc => match e with
    | .c n => .i k (.c n)
    | e => nrmI k e (valOf pc e)
  | .b e => fun pc => nrmB e (decE e pc)
  | v => fun _ => v
def nrmP (pc : List (BE × Bool)) (p : Pr V) : Pr V :=
  Pr.rec (fun a => .ret (nrmV a pc)) .bad (fun b o _ ih => .cell b o ih) (fun b o v _ ih => .setc b o v ih) (fun b lo n _ ih => .rows b lo n ih) (fun b lo cs _ ih => .sets b lo cs ih)
    (fun b _ ih => .info b ih) (fun o _ ih => .new o ih) (fun b _ ih => .kill b ih) (fun r _ ih => .getM r ih) (fun r es _ ih => .setM r es ih) p
def nrmC (pc : List (BE × Bool)) : Act → Act
  | .val x => .val (nrmV x pc)
  | .pv p => .pv (nrmP pc p)
  | a => a
def nrmA (a : Act) : List (BE × Bool) → Act
  | [] => a
  | x :: r => nrmC (x :: r) a
def vop (op : Op) (cx : Cx) (t : Tm) : Act := nrmA (vop0 op cx t) cx.pc

/-! ### Code -/
inductive R
  | bad
  | nm (t : Tm) (σ : St)
  | ex (n : Nat) (t : Tm) (σ : St)
  | rt (t : Tm) (σ : St)
def putT (d : Option Tmp) (v : V) (t : Tm) : Tm := Option.rec t (fun d => t.set d v) d
def sameB : Bool → Bool → Bool
  | true => fun w => w
  | false => fun w => !w
def boolD : Option Bool → Bool → Option Bool
  | some b => fun want => some (sameB b want)
  | none => fun _ => none
def boolO : Option V → Cx → Bool → Option Bool
  | some (.b e) => fun cx want => boolD (cx.dec e) want
  | _ => fun _ _ => some false
def dstOf (l : List Oper) : Nat → Option Tmp :=
  List.rec (fun _ => none) (fun o _ ih n => Nat.rec o.dst (fun m _ => ih m) n) l
def guardT (ops : List Oper) (cx : Cx) (t : Tm) (j : Nat) (want : Bool) : Option Bool := Option.rec (some false) (fun d => boolO (t.get d) cx want) (dstOf ops j)
def wanted (g : Option (Nat × Bool)) (ops : List Oper) (cx : Cx) (t : Tm) : Option Bool := Option.rec (some true) (fun g => guardT ops cx t g.1 g.2) g
/-- Is it wanted, and is that known? -/
def wantR (x : Option Bool) (no yes : R) : R := Option.rec .bad (fun c => Bool.rec no yes c) x
abbrev CallT := FuncId → List V → St → Rs V
def aftP (d : Option Tmp) (t : Tm) (k : Tm → St → R) (r : Rs V) : R := Rs.rec .bad (fun x σ => k (putT d x t) σ) r
def aftU (d : Option Tmp) (t : Tm) (k : Tm → St → R) (r : Rs Unit) : R := Rs.rec .bad (fun _ σ => k (putT d undefV t) σ) r
def act (call : CallT) (d : Option Tmp) (t : Tm) (σ : St) (k : Tm → St → R) (a : Act) : R :=
  Act.rec (fun _ => .bad) (fun x => k (putT d x t) σ) (fun p => aftP d t k (runOn p σ)) (fun p => aftU d t k (runOn p σ)) (fun f args => aftP d t k (call f args σ)) a
def evOps (call : CallT) (cx : Cx) (ops : List Oper) (l : List Oper) : Tm → St → R :=
  List.rec (fun t σ => .nm t σ) (fun o _ ih t σ => Oper.rec (fun dst op _ _ _ g =>
    wantR (wanted g ops cx t) (ih (putT dst undefV t) σ) (act call dst t σ ih (vop op cx t))) o) l

/-! ### Regions that are drawn: what each operation reads and writes, and that those without an order do not meet -/
inductive Fp
  | mk (rd wr lo hi : Nat)
def binding : Ground → Bool
  | .textOnly _ => false
  | .gcOnly _ => false
  | _ => true
def rnth (l : List Nat) : Nat → Nat := List.rec (fun _ => 0) (fun x _ ih n => Nat.rec x (fun m _ => ih m) n) l
/-- Which operations stand ahead of one: bits. acc: those of the ones ahead, the last first; n: how many these are. -/
def bitsOf (acc : List Nat) (n : Nat) (es : List Edge) : Nat :=
  List.rec 0 (fun e _ ih => Edge.rec (fun on ground => Bool.rec ih (Bool.rec ih (Nat.lor (Nat.lor (Nat.pow 2 on) (rnth acc (Nat.sub (Nat.sub n 1) on))) ih) (Nat.ble (Nat.succ on) n)) (binding ground)) e) es
def befs (l : List Oper) : List Nat → Nat → List Nat :=
  List.rec (fun acc _ => acc) (fun o _ ih acc n => ih (bitsOf acc n o.after.toList :: acc) (Nat.succ n)) l
/-- The numbers between two bounds, and what an operation writes or makes: bits. -/
def rangeM (lo hi : Nat) : Nat := Nat.shiftLeft (Nat.sub (Nat.pow 2 (Nat.sub hi lo)) 1) lo
def footM (wr lo hi : Nat) : Nat := Nat.lor wr (rangeM lo hi)
def okPair (a b : Fp) : Bool := Fp.rec (fun rd wr lo hi => Fp.rec (fun rd' wr' lo' hi' =>
  Bool.rec false (Nat.beq (Nat.land (footM wr lo hi) (Nat.lor rd' (footM wr' lo' hi'))) 0) (Nat.beq (Nat.land (Nat.lor rd (footM wr lo hi)) (footM wr' lo' hi')) 0)) b) a
/-- One against those ahead of it (n: how many). -/
def okRow (bits : Nat) (a : Fp) (l : List Fp) : Nat → Bool :=
  List.rec (fun _ => true) (fun b _ ih n => Bool.rec (Bool.rec false (ih (Nat.sub n 1)) (okPair a b)) (ih (Nat.sub n 1)) (Nat.testBit bits (Nat.sub n 1))) l
def okDr (l : List Fp) : List Nat → Nat → Bool :=
  List.rec (fun _ _ => true) (fun a r ih bs n => List.rec false (fun b bs _ => Bool.rec false (ih bs (Nat.sub n 1)) (okRow b a r (Nat.sub n 1))) bs) l
def catR (l : List Fp) : Nat → Nat := List.rec (fun r => r) (fun f _ ih r => Fp.rec (fun rd _ _ _ => Nat.lor rd (ih r)) f) l
def catW (l : List Fp) : Nat → Nat := List.rec (fun r => r) (fun f _ ih r => Fp.rec (fun _ wr _ _ => Nat.lor wr (ih r)) f) l
def catK {β : Type} (l : List Fp) (lg : Lg) (k : Lg → β) : β := Lg.rec (k .off) (fun r w => forceN (catR l r) fun r => forceN (catW l w) fun w => k (.on r w)) lg
/-- Behind one operation: what it read and wrote is kept. -/
def drK (lo : Nat) (ih : List Fp → Tm → Tr Ob → Nat → R) (fps : List Fp) (t : Tm) (σ : St) : R :=
  St.rec (fun h nx lg => Lg.rec .bad (fun rd wr => ih (.mk rd wr lo nx :: fps) t h nx) lg) σ
def evDr (call : CallT) (cx : Cx) (ops : List Oper) (lg : Lg) (l : List Oper) : List Fp → Tm → Tr Ob → Nat → R :=
  List.rec (fun fps t h nx => Bool.rec .bad (catK fps lg (fun lg => .nm t (.mk h nx lg))) (okDr fps (befs ops [] 0) fps.length))
    (fun o _ ih fps t h nx => Oper.rec (fun dst op _ _ _ g =>
      wantR (wanted g ops cx t) (ih (.mk 0 0 nx nx :: fps) (putT dst undefV t) h nx) (act call dst t (.mk h nx (.on 0 0)) (drK nx ih fps) (vop op cx t))) o) l
def evReg (draw : Bool) (call : CallT) (cx : Cx) (ops : List Oper) (t : Tm) (σ : St) : R :=
  Bool.rec (evOps call cx ops ops t σ) (St.rec (fun h nx lg => evDr call cx ops lg ops [] t h nx) σ) draw

def packV : List V → V
  | [v] => v
  | vs => .tup vs
def argsTm (l : List V) : Nat → Tm → Tm := List.rec (fun _ t => t) (fun v _ ih n t => ih (Nat.succ n) (t.set n v)) l
/-- The results: a temporary's value, or the cell that it leads to. -/
def loadRes (cx : Cx) (t : Tm) : List ResultVar → List V → St → Rs (List V)
  | [] => fun acc σ => .ok acc.reverse σ
  | .tmp i :: r => fun acc σ => loadRes cx t r (orU (t.get i) :: acc) σ
  | .cell a ty :: r => fun acc σ => Rs.rec .bad (fun v σ => loadRes cx t r (v :: acc) σ) (runOn (vload (orU (t.get a)) cx ty) σ)
def packR (r : Rs (List V)) : Rs V := Rs.rec .bad (fun vs σ => .ok (packV vs) σ) r
def retOf (cx : Cx) (res : List ResultVar) (r : R) : Rs V :=
  R.rec .bad (fun t σ => packR (loadRes cx t res [] σ)) (fun _ _ _ => .bad) (fun t σ => packR (loadRes cx t res [] σ)) r
abbrev EvT := Code → Tm → St → R
def callFu (ev : EvT) (cx : Cx) (args : List V) (σ : St) (f : Option Fu) : Rs V :=
  Option.rec .bad (fun f => Fu.rec (fun _ res body => retOf cx res (ev body (argsTm args 0 .nil) σ)) (fun g => runOn (g cx.pc args) σ) f) f
def callOf (ev : EvT) (cx : Cx) : CallT := fun f args σ => callFu ev cx args σ (cx.fu.get f)
def seqK (k : Tm → St → R) (r : R) : R := R.rec .bad k .ex .rt r
def blockK (id : Nat) (r : R) : R := R.rec .bad .nm (fun n t σ => Bool.rec (.ex n t σ) (.nm t σ) (Nat.beq n id)) .rt r
def condD : Option Bool → R → R → R
  | some true => fun a _ => a
  | some false => fun _ b => b
  | none => fun _ _ => .bad
def condV : Option V → Cx → R → R → R
  | some (.b e) => fun cx a b => condD (cx.dec e) a b
  | _ => fun _ _ _ => .bad
def evC : Code → EvT → Cx → Tm → St → R
  | .skip => fun _ _ t σ => .nm t σ
  | .region _ ops draw => fun ev cx t σ => evReg draw (callOf ev cx) cx ops.toList t σ
  | .seq a b => fun ev _ t σ => seqK (ev b) (ev a t σ)
  | .cond c a b => fun ev cx t σ => condV (Tm.ev c t) cx (ev a t σ) (ev b t σ)
  | .block id b => fun ev _ t σ => blockK id (ev b t σ)
  | .loop b => fun ev _ t σ => seqK (ev (.loop b)) (ev b t σ)
  | .exit m => fun _ _ t σ => .ex m t σ
  | .scope b => fun ev _ t σ => ev b t σ
  | .ret => fun _ _ t σ => .rt t σ
  | _ => fun _ _ _ _ => .bad
def ev (cx : Cx) (n : Nat) : EvT := Nat.rec (fun _ _ _ => .bad) (fun _ ih c => evC c ih cx) n
def evCall (cx : Cx) (n : Nat) : CallT := callOf (ev cx n) cx
def st0 (n : Nat) : St := .mk .nil n .off
def resB : Rs V → Option Bool
  | .ok (.b (.c b)) _ => some b
  | _ => none
end
end Go.Vm
