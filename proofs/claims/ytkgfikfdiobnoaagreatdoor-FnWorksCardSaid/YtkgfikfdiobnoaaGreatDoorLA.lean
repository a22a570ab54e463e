/- Laws about rows, out of walks and contracts. Conditions: none. -/
import Derived.Test.YtkgfikfdiobnoaaGreatDoorL7
set_option linter.unusedVariables false
set_option linter.unusedSimpArgs false
namespace Go.Ab
def rowAt {T : Type} (xs : List (List T)) (j : Nat) : List T := (xs[j]?).getD []
def RowsP (φ : Nat → Nat) (t : TypeId) (E : ET) (xs : List (List E.ty)) (v : Value) (lo hi : Nat) (w : World) : Prop :=
 hi ≤ w.heap.size ∧ ∃ (b : Nat) (C : Array Value) (ad : Nat → Option Addr) (n cp los his : Nat → Nat),v = .slice (some ⟨b,0,none⟩) xs.length xs.length ∧ lo ≤ b ∧ b < hi ∧ w.heap[b]? = some (.cells C t) ∧ C.size = xs.length ∧
  (∀ j,j < xs.length → C[j]? = some (.slice (ad j) (n j) (cp j)) ∧ OwnP φ E.z ((rowAt xs j).map E.enc) (.slice (ad j) (n j) (cp j)) (los j) (his j) w ∧ b < los j ∧ los j ≤ his j ∧ his j ≤ hi) ∧ ∀ i j,i < j → j < xs.length → his i ≤ los j
structure Z6w (P : Program) (toS toI tS : Nat) : Prop where
 nil : ∀ (a : Option Addr) (cap : Nat) (w : World),Calls P toS #[.slice a 0 cap] w fun e w' => e = .returned (.slice (some ⟨w.heap.size,0,none⟩) 0 0) ∧ Lo w.heap.size w w' ∧ w'.heap[w.heap.size]? = some (.cells #[] tS)
 all : ∀ (b off len cap : Nat) (w : World) (aa : Nat → Value) (V4 : Nat → Value → Nat → Nat → World → Prop),b < w.heap.size → len ≤ 1099511627776 →
  (∀ j,j < len → w.cell? ⟨b,off + j,none⟩ = some (aa j)) →
  (∀ j v lo hi w w',V4 j v lo hi w → Hi lo w w' → V4 j v lo hi w') →
  (∀ j,j < len → ∀ w',Lo w.heap.size w w' → Calls P toI #[aa j] w' fun e w'' => ∃ ad n cap,e = .returned (.slice ad n cap) ∧ Lo w'.heap.size w' w'' ∧ V4 j (.slice ad n cap) w'.heap.size w''.heap.size w'') →
  Calls P toS #[.slice (some ⟨b,off,none⟩) len cap] w fun e w' => e = .returned (.slice (some ⟨w.heap.size,0,none⟩) len len) ∧ Lo w.heap.size w w' ∧
   ∃ (C : Array Value) (lo hi : Nat → Nat),w'.heap[w.heap.size]? = some (.cells C tS) ∧ C.size = len ∧ (∀ j,j < len → ∃ ad n cap,C[j]? = some (.slice ad n cap) ∧
     V4 j (.slice ad n cap) (lo j) (hi j) w' ∧ w.heap.size < lo j ∧ hi j ≤ w'.heap.size) ∧ ∀ i j,i < j → j < len → hi i ≤ lo j
structure Z6q (P : Program) (mkS mkI tS : Nat) : Prop where
 run : ∀ (b len cap m0 : Nat) (w : World) (C : Array Value) (ad : Nat → Option Addr) (n cp lo hi : Nat → Nat) (V4 : Nat → World → Prop),
  len ≤ 1048576 → m0 ≤ 4503599627370496 → (∀ j,j < len → n j ≤ 1048576) →
  w.heap[b]? = some (.cells C tS) → C.size = len → (∀ j,j < len → C[j]? = some (.slice (ad j) (n j) (cp j))) →
  (∀ j,j < len → b < lo j) → (∀ j,j < len → hi j ≤ w.heap.size) → (∀ i j,i < j → j < len → hi i ≤ lo j) → (∀ j,j < len → V4 j w) →
  (∀ j w w',j < len → V4 j w → (∀ c,lo j ≤ c → c < hi j → w'.heap[c]? = w.heap[c]?) → w.heap.size ≤ w'.heap.size → V4 j w') →
  (∀ j,j < len → ∀ (m : Nat) (w' : World),m ≤ 4600000000000000 → Rg (fun c => ∃ j,j < len ∧ lo j ≤ c ∧ c < hi j) w w' → V4 j w' → Calls P mkI #[.slice (ad j) (n j) (cp j),.int .i64 m] w' fun e w'' =>
    ∃ m' : Nat,e = .returned (.int .i64 m') ∧ m' ≤ m + 4194304 ∧ Rg (fun c => lo j ≤ c ∧ c < hi j) w' w'') →
  Calls P mkS #[.slice (some ⟨b,0,none⟩) len cap,.int .i64 m0] w fun e w' => ∃ m : Nat,e = .returned (.int .i64 m) ∧ m ≤ m0 + len * 4194304 ∧ Rg (fun c => ∃ j,j < len ∧ lo j ≤ c ∧ c < hi j) w w'
section
variable {P : Program} {φ : Nat → Nat} {E : ET}
theorem RowsP.keep {t : TypeId} {xs : List (List E.ty)} {v : Value} {lo hi : Nat} {w w' : World} (h : RowsP φ t E xs v lo hi w) (hs : ∀ c,lo ≤ c → c < hi → w'.heap[c]? = w.heap[c]?) (hz : w.heap.size ≤ w'.heap.size) : RowsP φ t E xs v lo hi w' := by
 obtain ⟨h1,b,C,ad,n,cp,los,his,h2,h3,h4,h5,h6,h7,h8⟩ := h
 refine ⟨Nat.le_trans h1 hz,b,C,ad,n,cp,los,his,h2,h3,h4,(hs b h3 h4).trans h5,h6,fun j hj => ?_,h8⟩
 obtain ⟨a3,a4,a5,a6,a7⟩ := h7 j hj
 exact ⟨a3,a4.keep (fun c c1 c2 => hs c (by omega) (by omega)) hz,a5,a6,a7⟩
theorem RowsP.data {t : TypeId} {xs : List (List E.ty)} {v : Value} {lo hi : Nat} {w : World} (h : RowsP φ t E xs v lo hi w) : Rep φ w (fun b => lo ≤ b ∧ b < hi) v (.sl 1 (xs.map (ET.one (.sl E)).enc)) := by
 obtain ⟨h1,b,C,ad,n,cp,los,his,rfl,h3,h4,h5,h6,h7,h8⟩ := h
 have key : ∀ k i,i + k = xs.length → Reps φ w (fun b => lo ≤ b ∧ b < hi) ((List.range' i k).map fun j => Value.slice (ad j) (n j) (cp j)) (((xs.drop i).map (ET.one (.sl E)).enc).flatMap A.cells) ∧
  Cells w b i ((List.range' i k).map fun j => Value.slice (ad j) (n j) (cp j)) := by
  intro k
  induction k with
  | zero =>
    intro i hi'
    rw [List.drop_eq_nil_of_le (by omega)]
    exact ⟨.nil,fun j v hv => by simp at hv⟩
  | succ k ih =>
    intro i hi'
    have hil : i < xs.length := by omega
    obtain ⟨r1,r2⟩ := ih (i + 1) (by omega)
    obtain ⟨a3,a4,a5,a6,a7⟩ := h7 i hil
    have hst : rowAt xs i = xs[i] := by simp [rowAt,List.getElem?_eq_getElem hil]
    rw [List.range'_succ,List.map_cons,List.drop_eq_getElem_cons hil,List.map_cons,List.flatMap_cons]
    refine ⟨Reps.append (vs := [_]) ?_ r1,?_⟩
    ·have hd := a4.data.mono (ok' := fun b => lo ≤ b ∧ b < hi) (fun _ _ => rfl) (fun c hc => ⟨by omega,by omega⟩)
     rw [hst] at hd
     exact .cons _ _ _ _ hd .nil
    ·intro j v hv
     match j,hv with
     | 0,hv => cases hv; simp [World.cell?,h5,a3]
     | j + 1,hv =>
       have := r2 j v (by simpa using hv)
       rw [show i + 1 + j = i + (j + 1) by omega] at this
       exact this
 obtain ⟨r1,r2⟩ := key xs.length 0 (by omega)
 have := Rep.sl (φ := φ) (w := w) (ok := fun b => lo ≤ b ∧ b < hi) b 0 xs.length 1 (xs.map (ET.one (.sl E)).enc) _ ⟨h3,h4⟩ (fun x hx => by
  obtain ⟨y,_,rfl⟩ := List.mem_map.1 hx
  exact ET.enc_z (ET.one (.sl E)) y) (by simp) r1 (by simpa using r2)
 rw [List.length_map] at this
 exact this
end
structure Z6r (P : Program) (law sz sp toX im ep es mkX mp hp : Nat) : Prop where
 en : Entered P law
 neg : ∀ (w : World) (v : Value) (n : Int) (hn : n < 0)
  (hSz : ∀ w',Lo w.heap.size w w' → Calls P sz #[v,.int .i64 1048576] w' fun e w'' => e = .returned (.int .i64 n) ∧ Lo w'.heap.size w' w''),Calls P law #[v] w fun e w' => e = .returned (.bool true) ∧ Lo w.heap.size w w'
 run : ∀ (w : World) (v : Value) (n c0 : Int) (M : Nat) (T : Value → Nat → Nat → World → Prop) (W0 : Value → Nat → World → Prop) (G G2 : Value → Nat → Nat → World → Prop)
  (kT : ∀ v lo hi w w',T v lo hi w → (∀ c,lo ≤ c → c < hi → w'.heap[c]? = w.heap[c]?) → w.heap.size ≤ w'.heap.size → T v lo hi w')
  (kG : ∀ v lo hi w w',G v lo hi w → (∀ c,lo ≤ c → c < hi → w'.heap[c]? = w.heap[c]?) → w.heap.size ≤ w'.heap.size → G v lo hi w')
  (kG2 : ∀ v lo hi w w',G2 v lo hi w → (∀ c,lo ≤ c → c < hi → w'.heap[c]? = w.heap[c]?) → w.heap.size ≤ w'.heap.size → G2 v lo hi w')
  (kW : ∀ v hi w w',W0 v hi w → (∀ c,c < hi → w'.heap[c]? = w.heap[c]?) → w.heap.size ≤ w'.heap.size → W0 v hi w')
  (hSz : ∀ w',Lo w.heap.size w w' → Calls P sz #[v,.int .i64 1048576] w' fun e w'' => e = .returned (.int .i64 n) ∧ Lo w'.heap.size w' w'')
  (hTo : ∀ w',Lo w.heap.size w w' → Calls P toX #[v] w' fun e w'' => ∃ ad m cp,e = .returned (.slice ad m cp) ∧ Lo w'.heap.size w' w'' ∧ T (.slice ad m cp) w'.heap.size w''.heap.size w'')
  (hSp : ∀ v lo hi,∀ w',Lo w.heap.size w w' → T v lo hi w' → Calls P sp #[v] w' fun e w'' => ∃ ad m cp,e = .returned (.tuple #[.slice ad m cp,.int .i64 c0]) ∧ Lo w'.heap.size w' w'' ∧ W0 (.slice ad m cp) w''.heap.size w'')
  (hIm : ∀ v lo hi,∀ w',Lo w.heap.size w w' → T v lo hi w' → Calls P im #[v] w' fun e w'' => ∃ ad m cp,e = .returned (.tuple #[.slice ad m cp,.int .i64 c0]) ∧ Lo w'.heap.size w' w'' ∧ G (.slice ad m cp) w'.heap.size w''.heap.size w'')
  (hEp : ∀ g lo hi p h0,∀ w',Lo w.heap.size w w' → G g lo hi w' → W0 p h0 w' → Calls P ep #[g,p] w' fun e w'' => e = .returned (.bool true) ∧ Lo w'.heap.size w' w'')
  (hEs : ∀ v lo hi v2 lo2 hi2,∀ w',Lo w.heap.size w w' → T v lo hi w' → T v2 lo2 hi2 w' → Calls P es #[v,v2] w' fun e w'' => e = .returned (.bool true) ∧ Lo w'.heap.size w' w'')
  (hMk : ∀ v lo hi,∀ w',Lo w.heap.size w w' → T v lo hi w' → Calls P mkX #[v,.int .i64 1] w' fun e w'' => ∃ m : Nat,e = .returned (.int .i64 m) ∧ Rg (fun c => lo ≤ c ∧ c < hi) w' w'')
  (hMp : ∀ g lo hi,∀ w',Lo w.heap.size w w' → G g lo hi w' → Calls P mp #[g,.int .i64 1] w' fun e w'' => e = .returned (.int .i64 M) ∧ Rg (fun c => lo ≤ c ∧ c < hi) w' w'' ∧ G2 g lo hi w'')
  (hHp : ∀ g lo hi,∀ w',Lo w.heap.size w w' → G2 g lo hi w' → Calls P hp #[g,.int .i64 1] w' fun e w'' => e = .returned (.int .i64 M) ∧ Lo w'.heap.size w' w''),Calls P law #[v] w fun e w' => e = .returned (.bool true) ∧ Lo w.heap.size w w'
structure RowsF where
 sz : List (List (List UInt8)) → Int → Option Int
 sp : List (List (List UInt8)) → Option (List (List UInt8) × Int)
 im : List (List (List UInt8)) → Option (List (List UInt8) × Int)
 ep : List (List UInt8) → List (List UInt8) → Option Bool
 es : List (List (List UInt8)) → List (List (List UInt8)) → Option Bool
 tI : List (List UInt8) → Option (List (List UInt8))
 mp : List (List UInt8) → Int → Option (Int × List (List UInt8))
 hp : List (List UInt8) → Int → Option Int
structure RowsF.Pos (F : RowsF) (x : List (List (List UInt8))) : Prop where
 hl : x.length ≤ 1048576
 hn : ∀ j,j < x.length → (rowAt x j).length ≤ 1048576
 cI : ∀ j,j < x.length → F.tI (rowAt x j) = some (rowAt x j)
 kI : ∀ (ns : List (List UInt8)) (m : Nat),ns.length ≤ 1048576 → m ≤ 4600000000000000 → ∃ (m' : Nat) (ys : List (List UInt8)),m' ≤ m + 4194304 ∧ F.mp ns m = some ((m' : Int),ys)
 es : F.es x x = some true
 res : ∃ (ps : List (List UInt8)) (c : Int) (M : Nat) (gs : List (List UInt8)),F.sp x = some (ps,c) ∧ F.im x = some (ps,c) ∧ F.ep ps ps = some true ∧ F.mp ps 1 = some ((M : Int),gs) ∧ F.hp gs 1 = some (M : Int)
section
variable {P : Program} {φ : Nat → Nat}
end
end Go.Ab
