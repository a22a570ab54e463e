/- Laws about a desk, out of walks and contracts. Conditions: none. -/
import Derived.Test.YtihgbmhhcalejaaGreatDoorLA
set_option linter.unusedVariables false
set_option linter.unusedSimpArgs false
namespace Go.Ab
@[reducible] def pegE : ET := .agg (.cons .str (.cons (.int .i64) (.cons (.int .i64) (.cons (.int .i64) .nil))))
@[reducible] def modeE : ET := .agg (.cons .str (.cons (.int .i64) (.cons (.int .i64) .nil)))
@[reducible] def potE : ET := .agg (.cons .str (.cons (.int .i64) (.cons (.int .i64) (.cons (.int .i64) (.cons (.int .i64) .nil)))))
@[reducible] def rowE : ET := .one (.sl i64E)
@[reducible] def deskE : ET := .agg (.cons (.sl pegE) (.cons (.sl modeE) (.cons (.sl rowE) (.cons (.int .i64) (.cons (.int .i64) (.cons (.int .i64) (.cons (.int .i64) (.cons (.sl pegE) (.cons (.sl potE) (.cons (.sl modeE) (.cons (.sl pegE) (.cons (.sl paperE) .nil))))))))))))
structure DeskP (φ : Nat → Nat) (t : TypeId) (x : deskE.ty) (d : Nat → Value) (l h : Nat → Nat) (w : World) : Prop where
 p0 : OwnP φ 4 ((show List pegE.ty from x.1).map pegE.enc) (d 0) (l 0) (h 0) w
 p1 : OwnP φ 3 ((show List modeE.ty from x.2.1).map modeE.enc) (d 1) (l 1) (h 1) w
 p2 : RowsP φ t i64E (show List (List Int) from x.2.2.1) (d 2) (l 2) (h 2) w
 p7 : OwnP φ 4 ((show List pegE.ty from x.2.2.2.2.2.2.2.1).map pegE.enc) (d 7) (l 7) (h 7) w
 p8 : OwnP φ 5 ((show List potE.ty from x.2.2.2.2.2.2.2.2.1).map potE.enc) (d 8) (l 8) (h 8) w
 p9 : OwnP φ 3 ((show List modeE.ty from x.2.2.2.2.2.2.2.2.2.1).map modeE.enc) (d 9) (l 9) (h 9) w
 p10 : OwnP φ 4 ((show List pegE.ty from x.2.2.2.2.2.2.2.2.2.2.1).map pegE.enc) (d 10) (l 10) (h 10) w
 p11 : OwnP φ 5 ((show List paperE.ty from x.2.2.2.2.2.2.2.2.2.2.2.1).map paperE.enc) (d 11) (l 11) (h 11) w
 ch : (l 0 ≤ h 0 ∧ h 0 ≤ l 1) ∧ (l 1 ≤ h 1 ∧ h 1 ≤ l 2) ∧ (l 2 ≤ h 2 ∧ h 2 ≤ l 7) ∧ (l 7 ≤ h 7 ∧ h 7 ≤ l 8) ∧ (l 8 ≤ h 8 ∧ h 8 ≤ l 9) ∧ (l 9 ≤ h 9 ∧ h 9 ≤ l 10) ∧ (l 10 ≤ h 10 ∧ h 10 ≤ l 11) ∧ l 11 ≤ h 11
def deskV (x : deskE.ty) (d : Nat → Value) : Value := .agg #[d 0,d 1,d 2,.int .i64 x.2.2.2.1,.int .i64 x.2.2.2.2.1,.int .i64 x.2.2.2.2.2.1,.int .i64 x.2.2.2.2.2.2.1,d 7,d 8,d 9,d 10,d 11]
theorem DeskP.keep {φ : Nat → Nat} {t : TypeId} {x : deskE.ty} {d : Nat → Value} {l h : Nat → Nat} {w w' : World} (H : DeskP φ t x d l h w) (hs : ∀ c,l 0 ≤ c → c < h 11 → w'.heap[c]? = w.heap[c]?) (hz : w.heap.size ≤ w'.heap.size) : DeskP φ t x d l h w' := by
 have c := H.ch
 exact ⟨H.p0.keep (fun _ _ _ => hs _ (by omega) (by omega)) hz,H.p1.keep (fun _ _ _ => hs _ (by omega) (by omega)) hz,H.p2.keep (fun _ _ _ => hs _ (by omega) (by omega)) hz,H.p7.keep (fun _ _ _ => hs _ (by omega) (by omega)) hz,H.p8.keep (fun _ _ _ => hs _ (by omega) (by omega)) hz,H.p9.keep (fun _ _ _ => hs _ (by omega) (by omega)) hz,H.p10.keep (fun _ _ _ => hs _ (by omega) (by omega)) hz,H.p11.keep (fun _ _ _ => hs _ (by omega) (by omega)) hz,H.ch⟩
theorem DeskP.data {φ : Nat → Nat} {t : TypeId} {x : deskE.ty} {d : Nat → Value} {l h : Nat → Nat} {w : World} (H : DeskP φ t x d l h w) : Rep φ w (fun b => l 0 ≤ b ∧ b < h 11) (deskV x d) (deskE.enc x) := by
 have c := H.ch
 obtain ⟨x0,x1,x2,x3,x4,x5,x6,x7,x8,x9,x10,x11,⟨⟩⟩ := x
 have m : ∀ {v : Value} {a : A} {l' h' : Nat},Rep φ w (fun b => l' ≤ b ∧ b < h') v a → l 0 ≤ l' → h' ≤ h 11 → Rep φ w (fun b => l 0 ≤ b ∧ b < h 11) v a := fun hr h1 h2 => hr.mono (fun _ _ => rfl) fun b hb => ⟨by omega,by omega⟩
 exact .agg [_,_,_,_,_,_,_,_,_,_,_,_] _ (.cons _ _ _ _ (m H.p0.data (by omega) (by omega)) (.cons _ _ _ _ (m H.p1.data (by omega) (by omega)) (.cons _ _ _ _ (m H.p2.data (by omega) (by omega)) (.cons _ _ _ _ (.int _ _) (.cons _ _ _ _ (.int _ _) (.cons _ _ _ _ (.int _ _) (.cons _ _ _ _ (.int _ _) (.cons _ _ _ _ (m H.p7.data (by omega) (by omega)) (.cons _ _ _ _ (m H.p8.data (by omega) (by omega)) (.cons _ _ _ _ (m H.p9.data (by omega) (by omega)) (.cons _ _ _ _ (m H.p10.data (by omega) (by omega)) (.cons _ _ _ _ (m H.p11.data (by omega) (by omega)) .nil))))))))))))
structure ToDeskWalk (P : Program) (toX f0 f1 f2 fN f7 f8 f9 f10 f11 : Nat) : Prop where
 run : ∀ (w : World) (v0 : Value) (v1 : Value) (v2 : Value) (v7 : Value) (v8 : Value) (v9 : Value) (v10 : Value) (v11 : Value) (v3 : Int) (v4 : Int) (v5 : Int) (v6 : Int) (Q : Nat → Value → Nat → Nat → World → Prop)
  (hP : ∀ x v lo hi w w',Q x v lo hi w → hi ≤ w.heap.size → (∀ c,lo ≤ c → c < hi → w'.heap[c]? = w.heap[c]?) → w.heap.size ≤ w'.heap.size → Q x v lo hi w')
  (h0 : ∀ w',Lo w.heap.size w w' → Calls P f0 #[v0] w' fun e w'' => ∃ ad n cp,e = .returned (.slice ad n cp) ∧ Lo w'.heap.size w' w'' ∧ Q 0 (.slice ad n cp) w'.heap.size w''.heap.size w'')
  (h1 : ∀ w',Lo w.heap.size w w' → Calls P f1 #[v1] w' fun e w'' => ∃ ad n cp,e = .returned (.slice ad n cp) ∧ Lo w'.heap.size w' w'' ∧ Q 1 (.slice ad n cp) w'.heap.size w''.heap.size w'')
  (h2 : ∀ w',Lo w.heap.size w w' → Calls P f2 #[v2] w' fun e w'' => ∃ ad n cp,e = .returned (.slice ad n cp) ∧ Lo w'.heap.size w' w'' ∧ Q 2 (.slice ad n cp) w'.heap.size w''.heap.size w'')
  (h3 : ∀ w',Lo w.heap.size w w' → Calls P fN #[.agg #[.int .i64 v3,.int .i64 v4,.int .i64 v5,.int .i64 v6]] w' fun e w'' => e = .returned (.agg #[.int .i64 v3,.int .i64 v4,.int .i64 v5,.int .i64 v6]) ∧ Lo w'.heap.size w' w'')
  (h7 : ∀ w',Lo w.heap.size w w' → Calls P f7 #[v7] w' fun e w'' => ∃ ad n cp,e = .returned (.slice ad n cp) ∧ Lo w'.heap.size w' w'' ∧ Q 7 (.slice ad n cp) w'.heap.size w''.heap.size w'')
  (h8 : ∀ w',Lo w.heap.size w w' → Calls P f8 #[v8] w' fun e w'' => ∃ ad n cp,e = .returned (.slice ad n cp) ∧ Lo w'.heap.size w' w'' ∧ Q 8 (.slice ad n cp) w'.heap.size w''.heap.size w'')
  (h9 : ∀ w',Lo w.heap.size w w' → Calls P f9 #[v9] w' fun e w'' => ∃ ad n cp,e = .returned (.slice ad n cp) ∧ Lo w'.heap.size w' w'' ∧ Q 9 (.slice ad n cp) w'.heap.size w''.heap.size w'')
  (h10 : ∀ w',Lo w.heap.size w w' → Calls P f10 #[v10] w' fun e w'' => ∃ ad n cp,e = .returned (.slice ad n cp) ∧ Lo w'.heap.size w' w'' ∧ Q 10 (.slice ad n cp) w'.heap.size w''.heap.size w'')
  (h11 : ∀ w',Lo w.heap.size w w' → Calls P f11 #[v11] w' fun e w'' => ∃ ad n cp,e = .returned (.slice ad n cp) ∧ Lo w'.heap.size w' w'' ∧ Q 11 (.slice ad n cp) w'.heap.size w''.heap.size w''),Calls P toX #[.agg #[v0,v1,v2,.int .i64 v3,.int .i64 v4,.int .i64 v5,.int .i64 v6,v7,v8,v9,v10,v11]] w fun e w' => ∃ ad0 n0 cp0 lo0 hi0 ad1 n1 cp1 lo1 hi1 ad2 n2 cp2 lo2 hi2 ad7 n7 cp7 lo7 hi7 ad8 n8 cp8 lo8 hi8 ad9 n9 cp9 lo9 hi9 ad10 n10 cp10 lo10 hi10 ad11 n11 cp11 lo11 hi11,e = .returned (.agg #[.slice ad0 n0 cp0,.slice ad1 n1 cp1,.slice ad2 n2 cp2,.int .i64 v3,.int .i64 v4,.int .i64 v5,.int .i64 v6,.slice ad7 n7 cp7,.slice ad8 n8 cp8,.slice ad9 n9 cp9,.slice ad10 n10 cp10,.slice ad11 n11 cp11]) ∧ Lo w.heap.size w w' ∧ Q 0 (.slice ad0 n0 cp0) lo0 hi0 w' ∧ Q 1 (.slice ad1 n1 cp1) lo1 hi1 w' ∧ Q 2 (.slice ad2 n2 cp2) lo2 hi2 w' ∧ Q 7 (.slice ad7 n7 cp7) lo7 hi7 w' ∧ Q 8 (.slice ad8 n8 cp8) lo8 hi8 w' ∧ Q 9 (.slice ad9 n9 cp9) lo9 hi9 w' ∧ Q 10 (.slice ad10 n10 cp10) lo10 hi10 w' ∧ Q 11 (.slice ad11 n11 cp11) lo11 hi11 w' ∧ w.heap.size + 3 ≤ lo0 ∧ lo0 ≤ hi0 ∧ hi0 ≤ lo1 ∧ lo1 ≤ hi1 ∧ hi1 ≤ lo2 ∧ lo2 ≤ hi2 ∧ hi2 ≤ lo7 ∧ lo7 ≤ hi7 ∧ hi7 ≤ lo8 ∧ lo8 ≤ hi8 ∧ hi8 ≤ lo9 ∧ lo9 ≤ hi9 ∧ hi9 ≤ lo10 ∧ lo10 ≤ hi10 ∧ hi10 ≤ lo11 ∧ lo11 ≤ hi11 ∧ hi11 ≤ w'.heap.size
structure MarkDeskWalk (P : Program) (mkX f0 f1 f2 f7 f8 f9 f10 f11 : Nat) : Prop where
 run : ∀ (w : World) (v0 : Value) (v1 : Value) (v2 : Value) (v7 : Value) (v8 : Value) (v9 : Value) (v10 : Value) (v11 : Value) (v3 : Int) (v4 : Int) (v5 : Int) (v6 : Int) (m0 : Nat) (lo hi : Nat → Nat)
  (hm : m0 ≤ 1000) (hc : lo 0 ≤ hi 0 ∧ hi 0 ≤ lo 1 ∧ lo 1 ≤ hi 1 ∧ hi 1 ≤ lo 2 ∧ lo 2 ≤ hi 2 ∧ hi 2 ≤ lo 7 ∧ lo 7 ≤ hi 7 ∧ hi 7 ≤ lo 8 ∧ lo 8 ≤ hi 8 ∧ hi 8 ≤ lo 9 ∧ lo 9 ≤ hi 9 ∧ hi 9 ≤ lo 10 ∧ lo 10 ≤ hi 10 ∧ hi 10 ≤ lo 11 ∧ lo 11 ≤ hi 11 ∧ hi 11 ≤ w.heap.size)
  (h0 : ∀ (m : Nat) (w' : World),m ≤ 1125899906842624 → Rg (fun c => lo 0 ≤ c ∧ c < hi 11) w w' → (∀ c,lo 0 ≤ c → c < hi 0 → w'.heap[c]? = w.heap[c]?) → Calls P f0 #[v0,.int .i64 m] w' fun e w'' => ∃ m' : Nat,e = .returned (.int .i64 m') ∧ m' ≤ m + 4398046511104 ∧ Rg (fun c => lo 0 ≤ c ∧ c < hi 0) w' w'')
  (h1 : ∀ (m : Nat) (w' : World),m ≤ 1125899906842624 → Rg (fun c => lo 0 ≤ c ∧ c < hi 11) w w' → (∀ c,lo 1 ≤ c → c < hi 1 → w'.heap[c]? = w.heap[c]?) → Calls P f1 #[v1,.int .i64 m] w' fun e w'' => ∃ m' : Nat,e = .returned (.int .i64 m') ∧ m' ≤ m + 4398046511104 ∧ Rg (fun c => lo 1 ≤ c ∧ c < hi 1) w' w'')
  (h2 : ∀ (m : Nat) (w' : World),m ≤ 1125899906842624 → Rg (fun c => lo 0 ≤ c ∧ c < hi 11) w w' → (∀ c,lo 2 ≤ c → c < hi 2 → w'.heap[c]? = w.heap[c]?) → Calls P f2 #[v2,.int .i64 m] w' fun e w'' => ∃ m' : Nat,e = .returned (.int .i64 m') ∧ m' ≤ m + 4398046511104 ∧ Rg (fun c => lo 2 ≤ c ∧ c < hi 2) w' w'')
  (h7 : ∀ (m : Nat) (w' : World),m ≤ 1125899906842624 → Rg (fun c => lo 0 ≤ c ∧ c < hi 11) w w' → (∀ c,lo 7 ≤ c → c < hi 7 → w'.heap[c]? = w.heap[c]?) → Calls P f7 #[v7,.int .i64 m] w' fun e w'' => ∃ m' : Nat,e = .returned (.int .i64 m') ∧ m' ≤ m + 4398046511104 ∧ Rg (fun c => lo 7 ≤ c ∧ c < hi 7) w' w'')
  (h8 : ∀ (m : Nat) (w' : World),m ≤ 1125899906842624 → Rg (fun c => lo 0 ≤ c ∧ c < hi 11) w w' → (∀ c,lo 8 ≤ c → c < hi 8 → w'.heap[c]? = w.heap[c]?) → Calls P f8 #[v8,.int .i64 m] w' fun e w'' => ∃ m' : Nat,e = .returned (.int .i64 m') ∧ m' ≤ m + 4398046511104 ∧ Rg (fun c => lo 8 ≤ c ∧ c < hi 8) w' w'')
  (h9 : ∀ (m : Nat) (w' : World),m ≤ 1125899906842624 → Rg (fun c => lo 0 ≤ c ∧ c < hi 11) w w' → (∀ c,lo 9 ≤ c → c < hi 9 → w'.heap[c]? = w.heap[c]?) → Calls P f9 #[v9,.int .i64 m] w' fun e w'' => ∃ m' : Nat,e = .returned (.int .i64 m') ∧ m' ≤ m + 4398046511104 ∧ Rg (fun c => lo 9 ≤ c ∧ c < hi 9) w' w'')
  (h10 : ∀ (m : Nat) (w' : World),m ≤ 1125899906842624 → Rg (fun c => lo 0 ≤ c ∧ c < hi 11) w w' → (∀ c,lo 10 ≤ c → c < hi 10 → w'.heap[c]? = w.heap[c]?) → Calls P f10 #[v10,.int .i64 m] w' fun e w'' => ∃ m' : Nat,e = .returned (.int .i64 m') ∧ m' ≤ m + 4398046511104 ∧ Rg (fun c => lo 10 ≤ c ∧ c < hi 10) w' w'')
  (h11 : ∀ (m : Nat) (w' : World),m ≤ 1125899906842624 → Rg (fun c => lo 0 ≤ c ∧ c < hi 11) w w' → (∀ c,lo 11 ≤ c → c < hi 11 → w'.heap[c]? = w.heap[c]?) → Calls P f11 #[v11,.int .i64 m] w' fun e w'' => ∃ m' : Nat,e = .returned (.int .i64 m') ∧ m' ≤ m + 4398046511104 ∧ Rg (fun c => lo 11 ≤ c ∧ c < hi 11) w' w''),Calls P mkX #[.agg #[v0,v1,v2,.int .i64 v3,.int .i64 v4,.int .i64 v5,.int .i64 v6,v7,v8,v9,v10,v11],.int .i64 m0] w fun e w' => ∃ m : Nat,e = .returned (.int .i64 m) ∧ m ≤ 1125899906842624 ∧ Rg (fun c => lo 0 ≤ c ∧ c < hi 11) w w'
structure DeskLawWalk (P : Program) (law sz sp toX im ep es mkX mp hp : Nat) : Prop where
 en : Entered P law
 run : ∀ (w : World) (v0 : Value) (v1 : Value) (v2 : Value) (v7 : Value) (v8 : Value) (v9 : Value) (v10 : Value) (v11 : Value) (v3 : Int) (v4 : Int) (v5 : Int) (v6 : Int) (n c0 : Int) (M : Nat) (T : Value → Nat → Nat → World → Prop) (W0 : Value → Nat → World → Prop) (G G2 : Value → Nat → Nat → World → Prop)
  (kT : ∀ v lo hi w w',T v lo hi w → (∀ c,lo ≤ c → c < hi → w'.heap[c]? = w.heap[c]?) → w.heap.size ≤ w'.heap.size → T v lo hi w')
  (kG : ∀ v lo hi w w',G v lo hi w → (∀ c,lo ≤ c → c < hi → w'.heap[c]? = w.heap[c]?) → w.heap.size ≤ w'.heap.size → G v lo hi w')
  (kG2 : ∀ v lo hi w w',G2 v lo hi w → (∀ c,lo ≤ c → c < hi → w'.heap[c]? = w.heap[c]?) → w.heap.size ≤ w'.heap.size → G2 v lo hi w')
  (kW : ∀ v hi w w',W0 v hi w → (∀ c,c < hi → w'.heap[c]? = w.heap[c]?) → w.heap.size ≤ w'.heap.size → W0 v hi w')
  (hSz : ∀ w',Lo w.heap.size w w' → Calls P sz #[.agg #[v0,v1,v2,.int .i64 v3,.int .i64 v4,.int .i64 v5,.int .i64 v6,v7,v8,v9,v10,v11],.int .i64 1048576] w' fun e w'' => e = .returned (.int .i64 n) ∧ Lo w'.heap.size w' w'')
  (hTo : ∀ w',Lo w.heap.size w w' → Calls P toX #[.agg #[v0,v1,v2,.int .i64 v3,.int .i64 v4,.int .i64 v5,.int .i64 v6,v7,v8,v9,v10,v11]] w' fun e w'' => ∃ (ad : Nat → Option Addr) (nn cp : Nat → Nat),e = .returned (.agg #[.slice (ad 0) (nn 0) (cp 0),.slice (ad 1) (nn 1) (cp 1),.slice (ad 2) (nn 2) (cp 2),.int .i64 v3,.int .i64 v4,.int .i64 v5,.int .i64 v6,.slice (ad 7) (nn 7) (cp 7),.slice (ad 8) (nn 8) (cp 8),.slice (ad 9) (nn 9) (cp 9),.slice (ad 10) (nn 10) (cp 10),.slice (ad 11) (nn 11) (cp 11)]) ∧ Lo w'.heap.size w' w'' ∧ T (.agg #[.slice (ad 0) (nn 0) (cp 0),.slice (ad 1) (nn 1) (cp 1),.slice (ad 2) (nn 2) (cp 2),.int .i64 v3,.int .i64 v4,.int .i64 v5,.int .i64 v6,.slice (ad 7) (nn 7) (cp 7),.slice (ad 8) (nn 8) (cp 8),.slice (ad 9) (nn 9) (cp 9),.slice (ad 10) (nn 10) (cp 10),.slice (ad 11) (nn 11) (cp 11)]) w'.heap.size w''.heap.size w'')
  (hSp : ∀ v lo hi,∀ w',Lo w.heap.size w w' → T v lo hi w' → Calls P sp #[v] w' fun e w'' => ∃ ad m cp,e = .returned (.tuple #[.slice ad m cp,.int .i64 c0]) ∧ Lo w'.heap.size w' w'' ∧ W0 (.slice ad m cp) w''.heap.size w'')
  (hIm : ∀ v lo hi,∀ w',Lo w.heap.size w w' → T v lo hi w' → Calls P im #[v] w' fun e w'' => ∃ ad m cp,e = .returned (.tuple #[.slice ad m cp,.int .i64 c0]) ∧ Lo w'.heap.size w' w'' ∧ G (.slice ad m cp) w'.heap.size w''.heap.size w'')
  (hEp : ∀ g lo hi p h0,∀ w',Lo w.heap.size w w' → G g lo hi w' → W0 p h0 w' → Calls P ep #[g,p] w' fun e w'' => e = .returned (.bool true) ∧ Lo w'.heap.size w' w'')
  (hEs : ∀ v lo hi v2 lo2 hi2,∀ w',Lo w.heap.size w w' → T v lo hi w' → T v2 lo2 hi2 w' → Calls P es #[v,v2] w' fun e w'' => e = .returned (.bool true) ∧ Lo w'.heap.size w' w'')
  (hMk : ∀ v lo hi,∀ w',Lo w.heap.size w w' → T v lo hi w' → Calls P mkX #[v,.int .i64 1] w' fun e w'' => ∃ m : Nat,e = .returned (.int .i64 m) ∧ Rg (fun c => lo ≤ c ∧ c < hi) w' w'')
  (hMp : ∀ g lo hi,∀ w',Lo w.heap.size w w' → G g lo hi w' → Calls P mp #[g,.int .i64 1] w' fun e w'' => e = .returned (.int .i64 M) ∧ Rg (fun c => lo ≤ c ∧ c < hi) w' w'' ∧ G2 g lo hi w'')
  (hHp : ∀ g lo hi,∀ w',Lo w.heap.size w w' → G2 g lo hi w' → Calls P hp #[g,.int .i64 1] w' fun e w'' => e = .returned (.int .i64 M) ∧ Lo w'.heap.size w' w''),Calls P law #[.agg #[v0,v1,v2,.int .i64 v3,.int .i64 v4,.int .i64 v5,.int .i64 v6,v7,v8,v9,v10,v11]] w fun e w' => e = .returned (.bool true) ∧ Lo w.heap.size w w'
structure DeskNegWalk (P : Program) (law sz : Nat) : Prop where
 run : ∀ (w : World) (v0 : Value) (v1 : Value) (v2 : Value) (v7 : Value) (v8 : Value) (v9 : Value) (v10 : Value) (v11 : Value) (v3 : Int) (v4 : Int) (v5 : Int) (v6 : Int) (n : Int) (hn : n < 0)
  (hSz : ∀ w',Lo w.heap.size w w' → Calls P sz #[.agg #[v0,v1,v2,.int .i64 v3,.int .i64 v4,.int .i64 v5,.int .i64 v6,v7,v8,v9,v10,v11],.int .i64 1048576] w' fun e w'' => e = .returned (.int .i64 n) ∧ Lo w'.heap.size w' w''),
  Calls P law #[.agg #[v0,v1,v2,.int .i64 v3,.int .i64 v4,.int .i64 v5,.int .i64 v6,v7,v8,v9,v10,v11]] w fun e w' => e = .returned (.bool true) ∧ Lo w.heap.size w w'
section
variable {P : Program} {φ : Nat → Nat}
theorem CallOk.ints4 {g : Nat} {as : List A} {a b c d : Int} (hc : CallOk P φ g as [.agg [.int .i64 a,.int .i64 b,.int .i64 c,.int .i64 d]] []) {w : World} {K : Nat → Prop} {vs : List Value} (hr : Reps φ w K vs as) (hK : ∀ b,K b → b < w.heap.size) (hG : Glob P K w) :
 Calls P (φ g) vs.toArray w fun e w' => e = .returned (.agg #[.int .i64 a,.int .i64 b,.int .i64 c,.int .i64 d]) ∧ Lo w.heap.size w w' := by
 refine (hc w K vs [] (argReps_of hr) List.nodup_nil (fun _ h => by cases h) hK hG).mono fun e w' ⟨v,he,hb⟩ => ?_
 subst he
 obtain ⟨rvs,K',rb,ob,hv,_,_,hrr,_⟩ := hb.rest
 refine ⟨?_,hb.grow,fun b hb' => hb.frame b hb' (by simp),hb.env.1,hb.env.2⟩
 cases hrr with
 | cons v0 _ _ vs0 _ _ h1 h2 =>
   cases h2
   cases h1 with
   | data _ h3 =>
     cases h3 with
     | agg vs _ h =>
     cases h with
     | cons _ _ _ _ h0 h =>
     cases h with
     | cons _ _ _ _ h1 h =>
     cases h with
     | cons _ _ _ _ h2 h =>
     cases h with
     | cons _ _ _ _ h3 h =>
     cases h
     cases h0
     cases h1
     cases h2
     cases h3
     rw [hv]; rfl
theorem agg12 {w : World} {K : Nat → Prop} {v : Value} {x0 x1 x2 x7 x8 x9 x10 x11 : A} {n3 n4 n5 n6 : Int} (h : Rep φ w K v (.agg [x0,x1,x2,.int .i64 n3,.int .i64 n4,.int .i64 n5,.int .i64 n6,x7,x8,x9,x10,x11])) :
 ∃ v0 v1 v2 v7 v8 v9 v10 v11,v = .agg #[v0,v1,v2,.int .i64 n3,.int .i64 n4,.int .i64 n5,.int .i64 n6,v7,v8,v9,v10,v11] ∧ Rep φ w K v0 x0 ∧ Rep φ w K v1 x1 ∧ Rep φ w K v2 x2 ∧ Rep φ w K v7 x7 ∧ Rep φ w K v8 x8 ∧ Rep φ w K v9 x9 ∧ Rep φ w K v10 x10 ∧ Rep φ w K v11 x11 := by
 cases h with
 | agg vs _ h =>
 cases h with
 | cons v0 _ _ _ h0 h =>
 cases h with
 | cons v1 _ _ _ h1 h =>
 cases h with
 | cons v2 _ _ _ h2 h =>
 cases h with
 | cons v3 _ _ _ h3 h =>
 cases h with
 | cons v4 _ _ _ h4 h =>
 cases h with
 | cons v5 _ _ _ h5 h =>
 cases h with
 | cons v6 _ _ _ h6 h =>
 cases h with
 | cons v7 _ _ _ h7 h =>
 cases h with
 | cons v8 _ _ _ h8 h =>
 cases h with
 | cons v9 _ _ _ h9 h =>
 cases h with
 | cons v10 _ _ _ h10 h =>
 cases h with
 | cons v11 _ _ _ h11 h =>
 cases h
 cases h3
 cases h4
 cases h5
 cases h6
 exact ⟨v0,v1,v2,v7,v8,v9,v10,v11,rfl,h0,h1,h2,h7,h8,h9,h10,h11⟩
def deskQ (φ : Nat → Nat) (tS : TypeId) (x : deskE.ty) : Nat → Value → Nat → Nat → World → Prop
 | 0,v,lo,hi,w => OwnP φ 4 ((show List pegE.ty from x.1).map pegE.enc) v lo hi w
 | 1,v,lo,hi,w => OwnP φ 3 ((show List modeE.ty from x.2.1).map modeE.enc) v lo hi w
 | 2,v,lo,hi,w => RowsP φ tS i64E (show List (List Int) from x.2.2.1) v lo hi w
 | 7,v,lo,hi,w => OwnP φ 4 ((show List pegE.ty from x.2.2.2.2.2.2.2.1).map pegE.enc) v lo hi w
 | 8,v,lo,hi,w => OwnP φ 5 ((show List potE.ty from x.2.2.2.2.2.2.2.2.1).map potE.enc) v lo hi w
 | 9,v,lo,hi,w => OwnP φ 3 ((show List modeE.ty from x.2.2.2.2.2.2.2.2.2.1).map modeE.enc) v lo hi w
 | 10,v,lo,hi,w => OwnP φ 4 ((show List pegE.ty from x.2.2.2.2.2.2.2.2.2.2.1).map pegE.enc) v lo hi w
 | 11,v,lo,hi,w => OwnP φ 5 ((show List paperE.ty from x.2.2.2.2.2.2.2.2.2.2.2.1).map paperE.enc) v lo hi w
 | _,_,_,_,_ => True
theorem toDesk_own {toX toS gI fN g0 g1 g7 g8 g9 g10 g11 tS : Nat} (h : ToDeskWalk P toX (φ g0) (φ g1) toS fN (φ g7) (φ g8) (φ g9) (φ g10) (φ g11)) (hS : RowsWalk P toS (φ gI) tS) {x : deskE.ty} (hl : List.length (α := List Int) x.2.2.1 ≤ 1099511627776)
 (c0 : CallOk P φ g0 [.sl 4 ((show List pegE.ty from x.1).map pegE.enc)] [.tok 0 4 ((show List pegE.ty from x.1).map pegE.enc)] [])
 (c1 : CallOk P φ g1 [.sl 3 ((show List modeE.ty from x.2.1).map modeE.enc)] [.tok 0 3 ((show List modeE.ty from x.2.1).map modeE.enc)] [])
 (c7 : CallOk P φ g7 [.sl 4 ((show List pegE.ty from x.2.2.2.2.2.2.2.1).map pegE.enc)] [.tok 0 4 ((show List pegE.ty from x.2.2.2.2.2.2.2.1).map pegE.enc)] [])
 (c8 : CallOk P φ g8 [.sl 5 ((show List potE.ty from x.2.2.2.2.2.2.2.2.1).map potE.enc)] [.tok 0 5 ((show List potE.ty from x.2.2.2.2.2.2.2.2.1).map potE.enc)] [])
 (c9 : CallOk P φ g9 [.sl 3 ((show List modeE.ty from x.2.2.2.2.2.2.2.2.2.1).map modeE.enc)] [.tok 0 3 ((show List modeE.ty from x.2.2.2.2.2.2.2.2.2.1).map modeE.enc)] [])
 (c10 : CallOk P φ g10 [.sl 4 ((show List pegE.ty from x.2.2.2.2.2.2.2.2.2.2.1).map pegE.enc)] [.tok 0 4 ((show List pegE.ty from x.2.2.2.2.2.2.2.2.2.2.1).map pegE.enc)] [])
 (c11 : CallOk P φ g11 [.sl 5 ((show List paperE.ty from x.2.2.2.2.2.2.2.2.2.2.2.1).map paperE.enc)] [.tok 0 5 ((show List paperE.ty from x.2.2.2.2.2.2.2.2.2.2.2.1).map paperE.enc)] [])
 (c2 : ∀ j,j < List.length (α := List Int) x.2.2.1 → CallOk P φ gI [.sl 1 ((rowAt (show List (List Int) from x.2.2.1) j).map i64E.enc)] [.tok 0 1 ((rowAt (show List (List Int) from x.2.2.1) j).map i64E.enc)] [])
 {w : World} (cN : ∀ w',Lo w.heap.size w w' → Calls P fN #[.agg #[.int .i64 x.2.2.2.1,.int .i64 x.2.2.2.2.1,.int .i64 x.2.2.2.2.2.1,.int .i64 x.2.2.2.2.2.2.1]] w' fun e w'' => e = .returned (.agg #[.int .i64 x.2.2.2.1,.int .i64 x.2.2.2.2.1,.int .i64 x.2.2.2.2.2.1,.int .i64 x.2.2.2.2.2.2.1]) ∧ Lo w'.heap.size w' w'')
 {K : Nat → Prop} {v0 v1 v2 v7 v8 v9 v10 v11 : Value} (r0 : Rep φ w K v0 (.sl 4 ((show List pegE.ty from x.1).map pegE.enc))) (r1 : Rep φ w K v1 (.sl 3 ((show List modeE.ty from x.2.1).map modeE.enc))) (r2 : Rep φ w K v2 (.sl 1 ((show List (List Int) from x.2.2.1).map rowE.enc))) (r7 : Rep φ w K v7 (.sl 4 ((show List pegE.ty from x.2.2.2.2.2.2.2.1).map pegE.enc))) (r8 : Rep φ w K v8 (.sl 5 ((show List potE.ty from x.2.2.2.2.2.2.2.2.1).map potE.enc))) (r9 : Rep φ w K v9 (.sl 3 ((show List modeE.ty from x.2.2.2.2.2.2.2.2.2.1).map modeE.enc))) (r10 : Rep φ w K v10 (.sl 4 ((show List pegE.ty from x.2.2.2.2.2.2.2.2.2.2.1).map pegE.enc))) (r11 : Rep φ w K v11 (.sl 5 ((show List paperE.ty from x.2.2.2.2.2.2.2.2.2.2.2.1).map paperE.enc)))
 (hK : ∀ b,K b → b < w.heap.size) (hG : Glob P K w) :
 Calls P toX #[.agg #[v0,v1,v2,.int .i64 x.2.2.2.1,.int .i64 x.2.2.2.2.1,.int .i64 x.2.2.2.2.2.1,.int .i64 x.2.2.2.2.2.2.1,v7,v8,v9,v10,v11]] w fun e w' => ∃ (ad : Nat → Option Addr) (nn cp : Nat → Nat),e = .returned (.agg #[.slice (ad 0) (nn 0) (cp 0),.slice (ad 1) (nn 1) (cp 1),.slice (ad 2) (nn 2) (cp 2),.int .i64 x.2.2.2.1,.int .i64 x.2.2.2.2.1,.int .i64 x.2.2.2.2.2.1,.int .i64 x.2.2.2.2.2.2.1,.slice (ad 7) (nn 7) (cp 7),.slice (ad 8) (nn 8) (cp 8),.slice (ad 9) (nn 9) (cp 9),.slice (ad 10) (nn 10) (cp 10),.slice (ad 11) (nn 11) (cp 11)]) ∧
  Lo w.heap.size w w' ∧ ∃ l h,DeskP φ tS x (fun j => .slice (ad j) (nn j) (cp j)) l h w' ∧ w.heap.size ≤ l 0 ∧ h 11 ≤ w'.heap.size := by
 have keep : ∀ w',Lo w.heap.size w w' → (∀ b,K b → b < w'.heap.size) ∧ Glob P K w' := fun w' hw =>
  ⟨fun b hb => Nat.lt_of_lt_of_le (hK b hb) hw.size,hG.on (fun _ h => h) fun b hb => hw.block b (hK b hb)⟩
 have mv : ∀ {v : Value} {a : A} (w' : World),Lo w.heap.size w w' → Rep φ w K v a → Reps φ w' K [v] [a] := fun w' hw hr => .cons _ _ _ _ (hr.mono (fun b hb => hw.block b (hK b hb)) fun _ h => h) .nil
 refine (h.run w v0 v1 v2 v7 v8 v9 v10 v11 x.2.2.2.1 x.2.2.2.2.1 x.2.2.2.2.2.1 x.2.2.2.2.2.2.1 (deskQ φ tS x) (fun y v lo hi w w' hq _ hs hz => ?_) (fun w' hw => CallOk.own c0 (mv w' hw r0) (keep w' hw).1 (keep w' hw).2) (fun w' hw => CallOk.own c1 (mv w' hw r1) (keep w' hw).1 (keep w' hw).2) (fun w' hw => toRows_own hS hl c2 (r2.mono (fun b hb => hw.block b (hK b hb)) fun _ h => h) (keep w' hw).1 (keep w' hw).2) cN (fun w' hw => CallOk.own c7 (mv w' hw r7) (keep w' hw).1 (keep w' hw).2) (fun w' hw => CallOk.own c8 (mv w' hw r8) (keep w' hw).1 (keep w' hw).2) (fun w' hw => CallOk.own c9 (mv w' hw r9) (keep w' hw).1 (keep w' hw).2) (fun w' hw => CallOk.own c10 (mv w' hw r10) (keep w' hw).1 (keep w' hw).2) (fun w' hw => CallOk.own c11 (mv w' hw r11) (keep w' hw).1 (keep w' hw).2)).mono fun e w' hq => ?_
 ·rcases y with _ | _ | _ | _ | _ | _ | _ | _ | _ | _ | _ | _ | y <;> first
   | exact OwnP.keep hq hs hz
   | exact RowsP.keep hq hs hz
   | exact trivial
 ·obtain ⟨ad0,n0,cp0,lo0,hi0,ad1,n1,cp1,lo1,hi1,ad2,n2,cp2,lo2,hi2,ad7,n7,cp7,lo7,hi7,ad8,n8,cp8,lo8,hi8,ad9,n9,cp9,lo9,hi9,ad10,n10,cp10,lo10,hi10,ad11,n11,cp11,lo11,hi11,he,hlo,q0,q1,q2,q7,q8,q9,q10,q11,hz,hch⟩ := hq
  refine ⟨fun j => match j with | 0 => ad0 | 1 => ad1 | 2 => ad2 | 7 => ad7 | 8 => ad8 | 9 => ad9 | 10 => ad10 | _ => ad11,fun j => match j with | 0 => n0 | 1 => n1 | 2 => n2 | 7 => n7 | 8 => n8 | 9 => n9 | 10 => n10 | _ => n11,fun j => match j with | 0 => cp0 | 1 => cp1 | 2 => cp2 | 7 => cp7 | 8 => cp8 | 9 => cp9 | 10 => cp10 | _ => cp11,he,hlo,
   fun j => match j with | 0 => lo0 | 1 => lo1 | 2 => lo2 | 7 => lo7 | 8 => lo8 | 9 => lo9 | 10 => lo10 | _ => lo11,fun j => match j with | 0 => hi0 | 1 => hi1 | 2 => hi2 | 7 => hi7 | 8 => hi8 | 9 => hi9 | 10 => hi10 | _ => hi11,⟨q0,q1,q2,q7,q8,q9,q10,q11,?_⟩,?_,?_⟩
  ·simp only
   omega
  ·show w.heap.size ≤ lo0
   omega
  ·show hi11 ≤ w'.heap.size
   omega
theorem markDesk_ok {mkX mkS mI m0 m1 m7 m8 m9 m10 m11 tS : Nat} (h : MarkDeskWalk P mkX (φ m0) (φ m1) mkS (φ m7) (φ m8) (φ m9) (φ m10) (φ m11)) (hS : MarkRowsWalk P mkS (φ mI) tS) {x : deskE.ty} (hl : List.length (α := List Int) x.2.2.1 ≤ 1048576) (hn : ∀ j,j < List.length (α := List Int) x.2.2.1 → (rowAt (show List (List Int) from x.2.2.1) j).length ≤ 1048576)
 (c0 : ∀ m : Nat,m ≤ 1125899906842624 → ∃ (m' : Nat) (ys : List A),m' ≤ m + 4398046511104 ∧ ys.all A.plain = true ∧ CallOk P φ m0 [.ios 4 ((show List pegE.ty from x.1).map pegE.enc),.int .i64 m] [.int .i64 (m' : Nat)] [.ios 4 ys])
 (c1 : ∀ m : Nat,m ≤ 1125899906842624 → ∃ (m' : Nat) (ys : List A),m' ≤ m + 4398046511104 ∧ ys.all A.plain = true ∧ CallOk P φ m1 [.ios 3 ((show List modeE.ty from x.2.1).map modeE.enc),.int .i64 m] [.int .i64 (m' : Nat)] [.ios 3 ys])
 (c7 : ∀ m : Nat,m ≤ 1125899906842624 → ∃ (m' : Nat) (ys : List A),m' ≤ m + 4398046511104 ∧ ys.all A.plain = true ∧ CallOk P φ m7 [.ios 4 ((show List pegE.ty from x.2.2.2.2.2.2.2.1).map pegE.enc),.int .i64 m] [.int .i64 (m' : Nat)] [.ios 4 ys])
 (c8 : ∀ m : Nat,m ≤ 1125899906842624 → ∃ (m' : Nat) (ys : List A),m' ≤ m + 4398046511104 ∧ ys.all A.plain = true ∧ CallOk P φ m8 [.ios 5 ((show List potE.ty from x.2.2.2.2.2.2.2.2.1).map potE.enc),.int .i64 m] [.int .i64 (m' : Nat)] [.ios 5 ys])
 (c9 : ∀ m : Nat,m ≤ 1125899906842624 → ∃ (m' : Nat) (ys : List A),m' ≤ m + 4398046511104 ∧ ys.all A.plain = true ∧ CallOk P φ m9 [.ios 3 ((show List modeE.ty from x.2.2.2.2.2.2.2.2.2.1).map modeE.enc),.int .i64 m] [.int .i64 (m' : Nat)] [.ios 3 ys])
 (c10 : ∀ m : Nat,m ≤ 1125899906842624 → ∃ (m' : Nat) (ys : List A),m' ≤ m + 4398046511104 ∧ ys.all A.plain = true ∧ CallOk P φ m10 [.ios 4 ((show List pegE.ty from x.2.2.2.2.2.2.2.2.2.2.1).map pegE.enc),.int .i64 m] [.int .i64 (m' : Nat)] [.ios 4 ys])
 (c11 : ∀ m : Nat,m ≤ 1125899906842624 → ∃ (m' : Nat) (ys : List A),m' ≤ m + 4398046511104 ∧ ys.all A.plain = true ∧ CallOk P φ m11 [.ios 5 ((show List paperE.ty from x.2.2.2.2.2.2.2.2.2.2.2.1).map paperE.enc),.int .i64 m] [.int .i64 (m' : Nat)] [.ios 5 ys])
 (cI : ∀ (ns : List Int) (m : Nat),ns.length ≤ 1048576 → m ≤ 4600000000000000 → ∃ (m' : Nat) (ys : List A),m' ≤ m + 4194304 ∧ ys.all A.plain = true ∧ CallOk P φ mI [.ios 1 (ns.map i64E.enc),.int .i64 m] [.int .i64 (m' : Int)] [.ios 1 ys])
 {w : World} {K : Nat → Prop} {d : Nat → Value} {l hh : Nat → Nat} (H : DeskP φ tS x d l hh w) (hK : ∀ b,K b → b < w.heap.size) (hKx : ∀ b,l 0 ≤ b → b < hh 11 → ¬ K b) (hG : Glob P K w) :
 Calls P mkX #[deskV x d,.int .i64 1] w fun e w' => ∃ m : Nat,e = .returned (.int .i64 m) ∧ Rg (fun c => l 0 ≤ c ∧ c < hh 11) w w' := by
 have ch := H.ch
 have keep : ∀ w',Rg (fun c => l 0 ≤ c ∧ c < hh 11) w w' → (∀ b,K b → b < w'.heap.size) ∧ Glob P K w' := fun w' hw =>
  ⟨fun b hb => Nat.lt_of_lt_of_le (hK b hb) hw.size,hG.on (fun _ h => h) fun c hc => hw.block c (hK c hc) fun hx => hKx c hx.1 hx.2 hc⟩
 have one : ∀ {g z j : Nat} {xs : List A},(∀ m : Nat,m ≤ 1125899906842624 → ∃ (m' : Nat) (ys : List A),m' ≤ m + 4398046511104 ∧ ys.all A.plain = true ∧ CallOk P φ g [.ios z xs,.int .i64 m] [.int .i64 (m' : Nat)] [.ios z ys]) → OwnP φ z xs (d j) (l j) (hh j) w → l 0 ≤ l j → hh j ≤ hh 11 →
  ∀ (m : Nat) (w' : World),m ≤ 1125899906842624 → Rg (fun c => l 0 ≤ c ∧ c < hh 11) w w' → (∀ c,l j ≤ c → c < hh j → w'.heap[c]? = w.heap[c]?) → Calls P (φ g) #[d j,.int .i64 m] w' fun e w'' => ∃ m' : Nat,e = .returned (.int .i64 m') ∧ m' ≤ m + 4398046511104 ∧ Rg (fun c => l j ≤ c ∧ c < hh j) w' w'' :=
  fun hc hp hl1 hl2 m w' hm hw hs => by
   obtain ⟨m',ys,b1,b2,b3⟩ := hc m hm
   refine (CallOk.mark b3 b2 (hp.keep hs hw.size) (keep w' hw).1 (fun c c1 c2 => hKx c (by omega) (by omega)) (keep w' hw).2).mono fun e w'' hq => ?_
   exact ⟨m',hq.1,b1,hq.2.1⟩
 refine (h.run w (d 0) (d 1) (d 2) (d 7) (d 8) (d 9) (d 10) (d 11) x.2.2.2.1 x.2.2.2.2.1 x.2.2.2.2.2.1 x.2.2.2.2.2.2.1 1 l hh (by omega) (by have := H.p11.1; omega) (one c0 H.p0 (by omega) (by omega)) (one c1 H.p1 (by omega) (by omega)) (fun m w' hm hw hs => ?_) (one c7 H.p7 (by omega) (by omega)) (one c8 H.p8 (by omega) (by omega)) (one c9 H.p9 (by omega) (by omega)) (one c10 H.p10 (by omega) (by omega)) (one c11 H.p11 (by omega) (by omega))).mono fun e w' hq => ?_
 ·refine (markRows_ok hS hl hn cI (H.p2.keep hs hw.size) (by omega) (keep w' hw).1 (fun c c1 c2 => hKx c (by omega) (by omega)) (keep w' hw).2).mono fun e w'' hq => ?_
  obtain ⟨m',q1,q2,q3⟩ := hq
  have : List.length (α := List Int) x.2.2.1 * 4194304 ≤ 1048576 * 4194304 := Nat.mul_le_mul_right _ hl
  exact ⟨m',q1,Nat.le_trans q2 (by omega),q3⟩
 ·obtain ⟨m,q1,_,q3⟩ := hq
  exact ⟨m,q1,q3⟩
end
structure DeskF where
 sz : deskE.ty → Int → Option Int
 sp : deskE.ty → Option (List (List UInt8) × Int)
 im : deskE.ty → Option (List (List UInt8) × Int)
 ep : List (List UInt8) → List (List UInt8) → Option Bool
 es : deskE.ty → deskE.ty → Option Bool
 tN : neckE.ty → Option neckE.ty
 t0 : List pegE.ty → Option (List pegE.ty)
 t1 : List modeE.ty → Option (List modeE.ty)
 t7 : List pegE.ty → Option (List pegE.ty)
 t8 : List potE.ty → Option (List potE.ty)
 t9 : List modeE.ty → Option (List modeE.ty)
 t10 : List pegE.ty → Option (List pegE.ty)
 t11 : List paperE.ty → Option (List paperE.ty)
 tI : List Int → Option (List Int)
 k0 : List pegE.ty → Int → Option (Int × List pegE.ty)
 k1 : List modeE.ty → Int → Option (Int × List modeE.ty)
 k7 : List pegE.ty → Int → Option (Int × List pegE.ty)
 k8 : List potE.ty → Int → Option (Int × List potE.ty)
 k9 : List modeE.ty → Int → Option (Int × List modeE.ty)
 k10 : List pegE.ty → Int → Option (Int × List pegE.ty)
 k11 : List paperE.ty → Int → Option (Int × List paperE.ty)
 kI : List Int → Int → Option (Int × List Int)
 mp : List (List UInt8) → Int → Option (Int × List (List UInt8))
 hp : List (List UInt8) → Int → Option Int
structure DeskF.Pos (F : DeskF) (x : deskE.ty) : Prop where
 hl : List.length (α := List Int) x.2.2.1 ≤ 1048576
 hn : ∀ j,j < List.length (α := List Int) x.2.2.1 → (rowAt (show List (List Int) from x.2.2.1) j).length ≤ 1048576
 cN : F.tN (x.2.2.2.1,x.2.2.2.2.1,x.2.2.2.2.2.1,x.2.2.2.2.2.2.1,()) = some (x.2.2.2.1,x.2.2.2.2.1,x.2.2.2.2.2.1,x.2.2.2.2.2.2.1,())
 c0 : F.t0 (show List pegE.ty from x.1) = some (show List pegE.ty from x.1)
 c1 : F.t1 (show List modeE.ty from x.2.1) = some (show List modeE.ty from x.2.1)
 c7 : F.t7 (show List pegE.ty from x.2.2.2.2.2.2.2.1) = some (show List pegE.ty from x.2.2.2.2.2.2.2.1)
 c8 : F.t8 (show List potE.ty from x.2.2.2.2.2.2.2.2.1) = some (show List potE.ty from x.2.2.2.2.2.2.2.2.1)
 c9 : F.t9 (show List modeE.ty from x.2.2.2.2.2.2.2.2.2.1) = some (show List modeE.ty from x.2.2.2.2.2.2.2.2.2.1)
 c10 : F.t10 (show List pegE.ty from x.2.2.2.2.2.2.2.2.2.2.1) = some (show List pegE.ty from x.2.2.2.2.2.2.2.2.2.2.1)
 c11 : F.t11 (show List paperE.ty from x.2.2.2.2.2.2.2.2.2.2.2.1) = some (show List paperE.ty from x.2.2.2.2.2.2.2.2.2.2.2.1)
 cI : ∀ ns : List Int,ns.length ≤ 1048576 → F.tI ns = some ns
 k0 : ∀ m : Nat,m ≤ 1125899906842624 → ∃ (m' : Nat) (ys : List pegE.ty),m' ≤ m + 4398046511104 ∧ F.k0 (show List pegE.ty from x.1) m = some ((m' : Int),ys)
 k1 : ∀ m : Nat,m ≤ 1125899906842624 → ∃ (m' : Nat) (ys : List modeE.ty),m' ≤ m + 4398046511104 ∧ F.k1 (show List modeE.ty from x.2.1) m = some ((m' : Int),ys)
 k7 : ∀ m : Nat,m ≤ 1125899906842624 → ∃ (m' : Nat) (ys : List pegE.ty),m' ≤ m + 4398046511104 ∧ F.k7 (show List pegE.ty from x.2.2.2.2.2.2.2.1) m = some ((m' : Int),ys)
 k8 : ∀ m : Nat,m ≤ 1125899906842624 → ∃ (m' : Nat) (ys : List potE.ty),m' ≤ m + 4398046511104 ∧ F.k8 (show List potE.ty from x.2.2.2.2.2.2.2.2.1) m = some ((m' : Int),ys)
 k9 : ∀ m : Nat,m ≤ 1125899906842624 → ∃ (m' : Nat) (ys : List modeE.ty),m' ≤ m + 4398046511104 ∧ F.k9 (show List modeE.ty from x.2.2.2.2.2.2.2.2.2.1) m = some ((m' : Int),ys)
 k10 : ∀ m : Nat,m ≤ 1125899906842624 → ∃ (m' : Nat) (ys : List pegE.ty),m' ≤ m + 4398046511104 ∧ F.k10 (show List pegE.ty from x.2.2.2.2.2.2.2.2.2.2.1) m = some ((m' : Int),ys)
 k11 : ∀ m : Nat,m ≤ 1125899906842624 → ∃ (m' : Nat) (ys : List paperE.ty),m' ≤ m + 4398046511104 ∧ F.k11 (show List paperE.ty from x.2.2.2.2.2.2.2.2.2.2.2.1) m = some ((m' : Int),ys)
 kI : ∀ (ns : List Int) (m : Nat),ns.length ≤ 1048576 → m ≤ 4600000000000000 → ∃ (m' : Nat) (ys : List Int),m' ≤ m + 4194304 ∧ F.kI ns m = some ((m' : Int),ys)
 es : F.es x x = some true
 res : ∃ (ps : List (List UInt8)) (c : Int) (M : Nat) (gs : List (List UInt8)),F.sp x = some (ps,c) ∧ F.im x = some (ps,c) ∧ F.ep ps ps = some true ∧ F.mp ps 1 = some ((M : Int),gs) ∧ F.hp gs 1 = some (M : Int)
def DeskF.Cond (F : DeskF) (x : deskE.ty) : Prop := ∃ n,F.sz x 1048576 = some n ∧ (n < 0 ∨ F.Pos x)
section
variable {P : Program} {φ : Nat → Nat}
theorem deskLaw_ok (F : DeskF) {law sz sp toX im ep es mkX mp hp toS fI fN f0 f1 f7 f8 f9 f10 f11 mkS nI n0 n1 n7 n8 n9 n10 n11 tS : Nat} {g gsz gsp gim gep ges gmp ghp gN gI mI g0 g1 g7 g8 g9 g10 g11 m0 m1 m7 m8 m9 m10 m11 : Nat}
 (L : DeskLawWalk P law sz sp toX im ep es mkX mp hp) (N : DeskNegWalk P law sz) (h : ToDeskWalk P toX f0 f1 toS fN f7 f8 f9 f10 f11) (hS : RowsWalk P toS fI tS) (hm : MarkDeskWalk P mkX n0 n1 mkS n7 n8 n9 n10 n11) (hmS : MarkRowsWalk P mkS nI tS)
 (hφ : [g,gsz,gsp,gim,gep,ges,gmp,ghp,gN,gI,mI,g0,g1,g7,g8,g9,g10,g11,m0,m1,m7,m8,m9,m10,m11].map φ = [law,sz,sp,im,ep,es,mp,hp,fN,fI,nI,f0,f1,f7,f8,f9,f10,f11,n0,n1,n7,n8,n9,n10,n11])
 (osz : ∀ x l n,F.sz x l = some n → CallOk P φ gsz [deskE.enc x,.int .i64 l] [.int .i64 n] [])
 (osp : ∀ x ps c,F.sp x = some (ps,c) → CallOk P φ gsp [deskE.enc x] [.tok 0 1 (ps.map strE.enc),.int .i64 c] [])
 (oim : ∀ x ps c,F.im x = some (ps,c) → CallOk P φ gim [deskE.enc x] [.tok 0 1 (ps.map strE.enc),.int .i64 c] [])
 (oep : ∀ x y b,F.ep x y = some b → CallOk P φ gep [.sl 1 (x.map strE.enc),.sl 1 (y.map strE.enc)] [.bool b] [])
 (oes : ∀ x y b,F.es x y = some b → CallOk P φ ges [deskE.enc x,deskE.enc y] [.bool b] [])
 (otN : ∀ x y,F.tN x = some y → CallOk P φ gN [neckE.enc x] [neckE.enc y] [])
 (ot0 : ∀ x y,F.t0 x = some y → CallOk P φ g0 [.sl 4 (x.map pegE.enc)] [.tok 0 4 (y.map pegE.enc)] [])
 (ot1 : ∀ x y,F.t1 x = some y → CallOk P φ g1 [.sl 3 (x.map modeE.enc)] [.tok 0 3 (y.map modeE.enc)] [])
 (ot7 : ∀ x y,F.t7 x = some y → CallOk P φ g7 [.sl 4 (x.map pegE.enc)] [.tok 0 4 (y.map pegE.enc)] [])
 (ot8 : ∀ x y,F.t8 x = some y → CallOk P φ g8 [.sl 5 (x.map potE.enc)] [.tok 0 5 (y.map potE.enc)] [])
 (ot9 : ∀ x y,F.t9 x = some y → CallOk P φ g9 [.sl 3 (x.map modeE.enc)] [.tok 0 3 (y.map modeE.enc)] [])
 (ot10 : ∀ x y,F.t10 x = some y → CallOk P φ g10 [.sl 4 (x.map pegE.enc)] [.tok 0 4 (y.map pegE.enc)] [])
 (ot11 : ∀ x y,F.t11 x = some y → CallOk P φ g11 [.sl 5 (x.map paperE.enc)] [.tok 0 5 (y.map paperE.enc)] [])
 (otI : ∀ x y,F.tI x = some y → CallOk P φ gI [.sl 1 (x.map i64E.enc)] [.tok 0 1 (y.map i64E.enc)] [])
 (ok0 : ∀ x m m' y,F.k0 x m = some (m',y) → CallOk P φ m0 [.ios 4 (x.map pegE.enc),.int .i64 m] [.int .i64 m'] [.ios 4 (y.map pegE.enc)])
 (ok1 : ∀ x m m' y,F.k1 x m = some (m',y) → CallOk P φ m1 [.ios 3 (x.map modeE.enc),.int .i64 m] [.int .i64 m'] [.ios 3 (y.map modeE.enc)])
 (ok7 : ∀ x m m' y,F.k7 x m = some (m',y) → CallOk P φ m7 [.ios 4 (x.map pegE.enc),.int .i64 m] [.int .i64 m'] [.ios 4 (y.map pegE.enc)])
 (ok8 : ∀ x m m' y,F.k8 x m = some (m',y) → CallOk P φ m8 [.ios 5 (x.map potE.enc),.int .i64 m] [.int .i64 m'] [.ios 5 (y.map potE.enc)])
 (ok9 : ∀ x m m' y,F.k9 x m = some (m',y) → CallOk P φ m9 [.ios 3 (x.map modeE.enc),.int .i64 m] [.int .i64 m'] [.ios 3 (y.map modeE.enc)])
 (ok10 : ∀ x m m' y,F.k10 x m = some (m',y) → CallOk P φ m10 [.ios 4 (x.map pegE.enc),.int .i64 m] [.int .i64 m'] [.ios 4 (y.map pegE.enc)])
 (ok11 : ∀ x m m' y,F.k11 x m = some (m',y) → CallOk P φ m11 [.ios 5 (x.map paperE.enc),.int .i64 m] [.int .i64 m'] [.ios 5 (y.map paperE.enc)])
 (okI : ∀ x m m' y,F.kI x m = some (m',y) → CallOk P φ mI [.ios 1 (x.map i64E.enc),.int .i64 m] [.int .i64 m'] [.ios 1 (y.map i64E.enc)])
 (omp : ∀ x m m' y,F.mp x m = some (m',y) → CallOk P φ gmp [.ios 1 (x.map strE.enc),.int .i64 m] [.int .i64 m'] [.ios 1 (y.map strE.enc)])
 (ohp : ∀ x m m',F.hp x m = some m' → CallOk P φ ghp [.sl 1 (x.map strE.enc),.int .i64 m] [.int .i64 m'] []) :
 FOk P φ g (lawC deskE F.Cond) := by
 simp only [List.map_cons,List.map_nil,List.cons.injEq,and_true] at hφ
 obtain ⟨rfl,rfl,rfl,rfl,rfl,rfl,rfl,rfl,rfl,rfl,rfl,rfl,rfl,rfl,rfl,rfl,rfl,rfl,rfl,rfl,rfl,rfl,rfl,rfl,rfl⟩ := hφ
 refine lawC_ok L.en (fun x => by obtain ⟨x0,x1,x2,x3,x4,x5,x6,x7,x8,x9,x10,x11,⟨⟩⟩ := x; rfl) fun x hx w K v hr hK hG => ?_
 obtain ⟨n,e1,hx⟩ := hx
 have keep : ∀ w',Lo w.heap.size w w' → (∀ b,K b → b < w'.heap.size) ∧ Glob P K w' := fun w' hw =>
  ⟨fun b hb => Nat.lt_of_lt_of_le (hK b hb) hw.size,hG.on (fun _ h => h) fun b hb => hw.block b (hK b hb)⟩
 have mv : ∀ {v : Value} {a : A} (w' : World),Lo w.heap.size w w' → Rep φ w K v a → Rep φ w' K v a := fun w' hw hr => hr.mono (fun b hb => hw.block b (hK b hb)) fun _ h => h
 obtain ⟨v0,v1,v2,v7,v8,v9,v10,v11,rfl,r0,r1,r2,r7,r8,r9,r10,r11⟩ := agg12 (show Rep φ w K v (.agg [.sl 4 ((show List pegE.ty from x.1).map pegE.enc),.sl 3 ((show List modeE.ty from x.2.1).map modeE.enc),.sl 1 ((show List (List Int) from x.2.2.1).map rowE.enc),.int .i64 x.2.2.2.1,.int .i64 x.2.2.2.2.1,.int .i64 x.2.2.2.2.2.1,.int .i64 x.2.2.2.2.2.2.1,.sl 4 ((show List pegE.ty from x.2.2.2.2.2.2.2.1).map pegE.enc),.sl 5 ((show List potE.ty from x.2.2.2.2.2.2.2.2.1).map potE.enc),.sl 3 ((show List modeE.ty from x.2.2.2.2.2.2.2.2.2.1).map modeE.enc),.sl 4 ((show List pegE.ty from x.2.2.2.2.2.2.2.2.2.2.1).map pegE.enc),.sl 5 ((show List paperE.ty from x.2.2.2.2.2.2.2.2.2.2.2.1).map paperE.enc)]) from hr)
 have sizes : ∀ w',Lo w.heap.size w w' → Calls P (φ gsz) #[_,.int .i64 1048576] w' fun e w'' => e = .returned (.int .i64 n) ∧ Lo w'.heap.size w' w'' := fun w' hw =>
  CallOk.num (osz _ _ _ e1) (vs := [_,_]) (.cons _ _ _ _ (mv w' hw hr) (.cons _ _ _ _ (.int _ _) .nil)) (keep w' hw).1 (keep w' hw).2
 rcases hx with hneg | hx
 ·exact N.run w v0 v1 v2 v7 v8 v9 v10 v11 x.2.2.2.1 x.2.2.2.2.1 x.2.2.2.2.2.1 x.2.2.2.2.2.2.1 n hneg sizes
 ·obtain ⟨ps,c,M,gs,y1,y2,y3,y4,y5⟩ := hx.res
  have P1 : ∀ {t : ET},t.plain = true → ∀ ys : List t.ty,(ys.map t.enc).all A.plain = true := fun h ys => all_plain h ys
  have all : ∀ w',Lo w.heap.size w w' → Glob P (fun b => b < w'.heap.size) w' := fun w' hw => hG.on (fun b hb => Nat.lt_of_lt_of_le (hK b hb) hw.size) fun b hb => hw.block b (hK b hb)
  have dt : ∀ {d : Nat → Value} {l h : Nat → Nat} {w' : World},DeskP φ tS x d l h w' → Rep φ w' (fun b => b < w'.heap.size) (deskV x d) (deskE.enc x) := fun H => H.data.mono (fun _ _ => rfl) fun b hb => by have := H.p11.1; omega
  have od : ∀ {z : Nat} {xs : List A} {u : Value} {lo hi : Nat} {w' : World},OwnP φ z xs u lo hi w' → Rep φ w' (fun b => b < w'.heap.size) u (.sl z xs) := fun H => H.data.mono (fun _ _ => rfl) fun b hb => by have := H.1; omega
  have hrow : ∀ j,j < List.length (α := List Int) x.2.2.1 → CallOk P φ gI [.sl 1 ((rowAt (show List (List Int) from x.2.2.1) j).map i64E.enc)] [.tok 0 1 ((rowAt (show List (List Int) from x.2.2.1) j).map i64E.enc)] [] := fun j hj => otI _ _ (hx.cI _ (hx.hn j hj))
  have neck : ∀ w0,(∀ b,K b → b < w0.heap.size) → Glob P K w0 → ∀ w',Lo w0.heap.size w0 w' → Calls P (φ gN) #[.agg #[.int .i64 x.2.2.2.1,.int .i64 x.2.2.2.2.1,.int .i64 x.2.2.2.2.2.1,.int .i64 x.2.2.2.2.2.2.1]] w' fun e w'' => e = .returned (.agg #[.int .i64 x.2.2.2.1,.int .i64 x.2.2.2.2.1,.int .i64 x.2.2.2.2.2.1,.int .i64 x.2.2.2.2.2.2.1]) ∧ Lo w'.heap.size w' w'' := fun w0 hK0 hG0 w' hw => by
   have hK1 : ∀ b,K b → b < w'.heap.size := fun b hb => Nat.lt_of_lt_of_le (hK0 b hb) hw.size
   have hG1 : Glob P K w' := hG0.on (fun _ h => h) fun b hb => hw.block b (hK0 b hb)
   exact CallOk.ints4 (otN _ _ hx.cN) (vs := [_]) (.cons _ _ _ _ (.agg [_,_,_,_] _ (.cons _ _ _ _ (.int _ _) (.cons _ _ _ _ (.int _ _) (.cons _ _ _ _ (.int _ _) (.cons _ _ _ _ (.int _ _) .nil))))) .nil) hK1 hG1
  refine L.run w v0 v1 v2 v7 v8 v9 v10 v11 x.2.2.2.1 x.2.2.2.2.1 x.2.2.2.2.2.1 x.2.2.2.2.2.2.1 n c M (fun v lo hi w' => ∃ d l h,v = deskV x d ∧ DeskP φ tS x d l h w' ∧ lo ≤ l 0 ∧ h 11 ≤ hi ∧ w.heap.size ≤ l 0) (fun p hi w' => ∃ lo,OwnP φ 1 (ps.map strE.enc) p lo hi w') (fun g lo hi w' => OwnP φ 1 (ps.map strE.enc) g lo hi w' ∧ w.heap.size ≤ lo) (fun g lo hi w' => OwnP φ 1 (gs.map strE.enc) g lo hi w')
   (fun v lo hi w1 w2 ht hs hz => ?_) (fun g lo hi w1 w2 hg hs hz => ⟨hg.1.keep hs hz,hg.2⟩) (fun g lo hi w1 w2 hg hs hz => hg.keep hs hz) (fun p hi w1 w2 hp hs hz => ?_) sizes (fun w' hw => ?_) (fun v lo hi w' hw ht => ?_) (fun v lo hi w' hw ht => ?_) (fun g lo hi p h0 w' hw hg hp => ?_) (fun v lo hi v2 lo2 hi2 w' hw ht ht2 => ?_) (fun v lo hi w' hw ht => ?_) (fun g lo hi w' hw hg => ?_) (fun g lo hi w' hw hg => ?_)
  ·obtain ⟨d,l,hh,rfl,H,b1,b2,b3⟩ := ht
   exact ⟨d,l,hh,rfl,H.keep (fun c c1 c2 => hs c (by omega) (by omega)) hz,b1,b2,b3⟩
  ·obtain ⟨lo,hp⟩ := hp
   exact ⟨lo,hp.keep (fun c _ c2 => hs c c2) hz⟩
  ·refine (toDesk_own h hS (Nat.le_trans hx.hl (by decide)) (ot0 _ _ hx.c0) (ot1 _ _ hx.c1) (ot7 _ _ hx.c7) (ot8 _ _ hx.c8) (ot9 _ _ hx.c9) (ot10 _ _ hx.c10) (ot11 _ _ hx.c11) hrow (neck w' (keep w' hw).1 (keep w' hw).2) (mv w' hw r0) (mv w' hw r1) (mv w' hw r2) (mv w' hw r7) (mv w' hw r8) (mv w' hw r9) (mv w' hw r10) (mv w' hw r11) (keep w' hw).1 (keep w' hw).2).mono fun e w'' hq => ?_
   obtain ⟨ad,nn,cp,q1,q2,l,hh,q3,q4,q5⟩ := hq
   exact ⟨ad,nn,cp,q1,q2,_,l,hh,rfl,q3,q4,q5,Nat.le_trans hw.size q4⟩
  ·obtain ⟨d,l,hh,rfl,H,b1,b2,b3⟩ := ht
   refine (CallOk.ownInt (osp _ _ _ y1) (vs := [_]) (.cons _ _ _ _ (dt H) .nil) (fun _ h => h) (all w' hw)).mono fun e w'' hq => ?_
   obtain ⟨ad,m,cp,q1,q2,q3⟩ := hq
   exact ⟨ad,m,cp,q1,q2,_,q3⟩
  ·obtain ⟨d,l,hh,rfl,H,b1,b2,b3⟩ := ht
   refine (CallOk.ownInt (oim _ _ _ y2) (vs := [_]) (.cons _ _ _ _ (dt H) .nil) (fun _ h => h) (all w' hw)).mono fun e w'' hq => ?_
   obtain ⟨ad,m,cp,q1,q2,q3⟩ := hq
   exact ⟨ad,m,cp,q1,q2,q3,hw.size⟩
  ·obtain ⟨lo0,hp⟩ := hp
   exact CallOk.bool (oep _ _ _ y3) (vs := [_,_]) (.cons _ _ _ _ (od hg.1) (.cons _ _ _ _ (od hp) .nil)) (fun _ h => h) (all w' hw)
  ·obtain ⟨d,l,hh,rfl,H,b1,b2,b3⟩ := ht
   obtain ⟨d2,l2,hh2,rfl,H2,e1,e2,e3⟩ := ht2
   exact CallOk.bool (oes _ _ _ hx.es) (vs := [_,_]) (.cons _ _ _ _ (dt H) (.cons _ _ _ _ (dt H2) .nil)) (fun _ h => h) (all w' hw)
  ·obtain ⟨d,l,hh,rfl,H,b1,b2,b3⟩ := ht
   refine (markDesk_ok hm hmS hx.hl hx.hn (fun m hm => by obtain ⟨m',ys,q1,q2⟩ := hx.k0 m hm; exact ⟨m',_,q1,P1 (t := pegE) rfl ys,ok0 _ _ _ _ q2⟩)
    (fun m hm => by obtain ⟨m',ys,q1,q2⟩ := hx.k1 m hm; exact ⟨m',_,q1,P1 (t := modeE) rfl ys,ok1 _ _ _ _ q2⟩)
    (fun m hm => by obtain ⟨m',ys,q1,q2⟩ := hx.k7 m hm; exact ⟨m',_,q1,P1 (t := pegE) rfl ys,ok7 _ _ _ _ q2⟩)
    (fun m hm => by obtain ⟨m',ys,q1,q2⟩ := hx.k8 m hm; exact ⟨m',_,q1,P1 (t := potE) rfl ys,ok8 _ _ _ _ q2⟩)
    (fun m hm => by obtain ⟨m',ys,q1,q2⟩ := hx.k9 m hm; exact ⟨m',_,q1,P1 (t := modeE) rfl ys,ok9 _ _ _ _ q2⟩)
    (fun m hm => by obtain ⟨m',ys,q1,q2⟩ := hx.k10 m hm; exact ⟨m',_,q1,P1 (t := pegE) rfl ys,ok10 _ _ _ _ q2⟩)
    (fun m hm => by obtain ⟨m',ys,q1,q2⟩ := hx.k11 m hm; exact ⟨m',_,q1,P1 (t := paperE) rfl ys,ok11 _ _ _ _ q2⟩)
    (fun ns m hns hm => by obtain ⟨m',ys,q1,q2⟩ := hx.kI ns m hns hm; exact ⟨m',_,q1,P1 (t := i64E) rfl ys,okI _ _ _ _ q2⟩) H (keep w' hw).1 (fun b c1 c2 hb => by have := hK b hb; omega) (keep w' hw).2).mono fun e w'' hq => ?_
   obtain ⟨m,q1,q2⟩ := hq
   exact ⟨m,q1,q2.mono fun c hc => ⟨by omega,by omega⟩⟩
  ·exact CallOk.mark (omp _ _ _ _ y4) (P1 (t := strE) rfl gs) hg.1 (keep w' hw).1 (fun b c1 c2 hb => by have := hK b hb; have := hg.2; omega) (keep w' hw).2
  ·exact CallOk.num (ohp _ _ _ y5) (vs := [_,_]) (.cons _ _ _ _ (od hg) (.cons _ _ _ _ (.int _ _) .nil)) (fun _ h => h) (all w' hw)
end
end Go.Ab
