/- The law FnWorks answers true for every input, whatever it is, and leaves its arguments as they were. Conditions: none. -/
import Derived.Test.YtkgfikfdiobnoaaGreatDoorQFnWorks
import Derived.Test.YtkgfikfdiobnoaaGreatDoorRows
import Derived.Test.YtkgfikfdiobnoaaGreatDoorL5
import Derived.Test.YtkgfikfdiobnoaaGreatDoorLJ
import Derived.Carry
import Derived.Deep.RegionHeld3
import Derived.Deep.RegionLaw
import Derived.Laws.IdiomStrings
import Derived.Shelf.RegionOpenPlain
import Derived.LoopTactic
import Derived.Test.YtkgfikfdiobnoaaGreatDoorShelf
import Derived.Test.YtkgfikfdiobnoaaGreatDoorCards
import Derived.Test.YtkgfikfdiobnoaaGreatDoorTie
import Derived.LaidMore
import Derived.Lay
import Derived.SevenTiedAt
import Derived.Stop.Joined
import Derived.WalkKit
import Derived.ProofKit
import Derived.OpenShut
import Derived.JoinedOf
import Derived.Handed
set_option linter.unusedVariables false
set_option maxRecDepth 100000
namespace Go.Proofs.YtkgfikfdiobnoaaGreatDoor.fnWorks
open Go.Ab Go.Ab.P
open Go.ChangeShapes Go.WideShapes Go.ChangeAt Go.RowKit
def phiL : List (Nat × Nat) := [(76,4),(441,14),(847,46),(463,30),(445,15),(642,31),(1053,47),(972,32),(973,33),(726,34),(784,16),(469,17),(374,5),(22,54),(21,35),(24,42),(23,19),(977,43),(978,44),(791,28),(715,18),(369,6),(787,21),(786,22),(4,23),(372,7),(1,38),(789,24),(11,57),(12,58),(13,48),(1054,49),(1055,50),(976,39),(790,25),(788,26),(373,8),(371,9),(370,10),(368,11),(864,63),(524,55),(630,56),(460,45),(459,29),(366,13),(523,40),(683,52),(522,53),(457,41),(747,27),(367,12),(1304,3)]
def phi (n : Nat) : Nat := (phiL.lookup n).getD 1000000
theorem hm : Tryz.prog.follows .mixedOrders = true := by kernel_rfl
theorem Zuc : FOk Tryz.prog phi 76 Zg4 := fn_ok hm (D := Zmo) DOk.nil (by kernel_rfl) _ _ _ _
theorem Zlb : FOk Tryz.prog phi 441 Zdz := fn_ok hm (D := Zl9) DOk.nil (by kernel_rfl) _ _ _ _
theorem Zon : FOk Tryz.prog phi 847 Zdf := fn_ok hm (D := Zdm) DOk.nil (by kernel_rfl) _ _ _ _
theorem Za0 : FOk Tryz.prog phi 463 Zao := fn_ok hm (D := Zh0) (DOk.cons Zon DOk.nil) (by kernel_rfl) _ _ _ _
theorem Zbf : FOk Tryz.prog phi 445 Zas := fn_ok hm (D := Zgj) (DOk.cons Za0 DOk.nil) (by kernel_rfl) _ _ _ _
theorem Zpo : FOk Tryz.prog phi 642 Zd5 := fn_ok hm (D := Zjc) (DOk.cons Za0 DOk.nil) (by kernel_rfl) _ _ _ _
theorem Zu0 : FOk Tryz.prog phi 1053 Zip := fn_ok hm (D := Zof) DOk.nil (by kernel_rfl) _ _ _ _
theorem Zo5 : FOk Tryz.prog phi 972 Zed := fn_ok hm (D := Ziw) (DOk.cons Za0 (DOk.cons Zu0 DOk.nil)) (by kernel_rfl) _ _ _ _
theorem Ztn : FOk Tryz.prog phi 973 Zgk := fn_ok hm (D := Zmj) (DOk.cons Zbf (DOk.cons Za0 DOk.nil)) (by kernel_rfl) _ _ _ _
theorem Zvs : FOk Tryz.prog phi 726 Zir := fn_ok hm (D := Zbs) DOk.nil (by kernel_rfl) _ _ _ _
theorem Zk9 : FOk Tryz.prog phi 784 Zdt := fn_ok hm (D := Zd0) (DOk.cons Zbf (DOk.cons Za0 (DOk.cons Zpo (DOk.cons Zvs (DOk.cons Zo5 (DOk.cons Ztn DOk.nil)))))) (by kernel_rfl) _ _ _ _
theorem Ze3 : FOk Tryz.prog phi 469 Zbe := fn_ok hm (D := Zfu) (DOk.cons Zbf DOk.nil) (by kernel_rfl) _ _ _ _
theorem Zlz : FOk Tryz.prog phi 374 Zcc := fn_ok hm (D := Ze0) (DOk.cons Zlb (DOk.cons Zbf (DOk.cons Ze3 (DOk.cons Zk9 DOk.nil)))) (by kernel_rfl) _ _ _ _
theorem Ztw : FOk Tryz.prog phi 22 Zg7 := fn_ok hm (D := Zmt) DOk.nil (by kernel_rfl) _ _ _ _
theorem Zlw : FOk Tryz.prog phi 21 Zfh := fn_ok hm (D := Ztb) DOk.nil (by kernel_rfl) _ _ _ _
theorem Zuy : FOk Tryz.prog phi 24 Zie := fn_ok hm (D := Zel) (DOk.cons Zlw (DOk.cons Ztw DOk.nil)) (by kernel_rfl) _ _ _ _
theorem Zcb : FOk Tryz.prog phi 23 Zba := fn_ok hm (D := Zn5) DOk.nil (by kernel_rfl) _ _ _ _
theorem Zve : FOk Tryz.prog phi 977 Zik := fn_ok hm (D := Zn4) (DOk.cons Zcb DOk.nil) (by kernel_rfl) _ _ _ _
theorem Zu2 : FOk Tryz.prog phi 978 Ziq := fn_ok hm (D := Zob) (DOk.cons Zcb DOk.nil) (by kernel_rfl) _ _ _ _
theorem Zdk : FOk Tryz.prog phi 791 Zbb := fn_ok hm (D := Zi4) (DOk.cons Zuy (DOk.cons Zve (DOk.cons Zu2 DOk.nil))) (by kernel_rfl) _ _ _ _
theorem Zdp : FOk Tryz.prog phi 715 Zb7 := fn_ok hm (D := Zd9) (DOk.cons Zlw (DOk.cons Zdk DOk.nil)) (by kernel_rfl) _ _ _ _
section
open Go.Ab Go.Proofs
theorem Zhs (w : World) (n a b : Int) : Calls Tryz.prog 19 #[.int .i64 n,.int .i64 a,.int .i64 b] w fun e w' => e = .returned (.bool (decide (a ≤ n) && decide (n ≤ b))) ∧ w' = w := by
 by_cases h : a ≤ n
 ·by_cases h2 : n ≤ b
  ·rw [decide_eq_true h,decide_eq_true h2]
   go_enter Tryz.func19,Tryz.ntmps19
   go_wp2_with (fail)
   go_ret
   exact ⟨rfl,rfl⟩
  ·rw [decide_eq_true h,decide_eq_false h2]
   go_enter Tryz.func19,Tryz.ntmps19
   go_wp2_with (fail)
   go_ret
   exact ⟨rfl,rfl⟩
 ·rw [decide_eq_false h]
  go_enter Tryz.func19,Tryz.ntmps19
  go_wp2_with (fail)
  go_ret
  exact ⟨rfl,rfl⟩
theorem Z55 (w : World) (b : Nat) (row : List Int) (hb : RowB 2 b row w) (hl : row.length = 40) (a n : Nat) (ha : a ≤ 39) (hn : n ≤ 40) :
 Calls Tryz.prog 36 #[.slice (some ⟨b,0,none⟩) 40 40,.int .i64 a,.int .i64 n] w fun e w' => e = .returned (.bool (freeB row a n)) ∧ w' = w := by
 by_cases h : (a : Int) + n ≤ 40
 ·have hsub : ((a : Int) + n) - a = n := by omega
  have han : ((a : Int) + n).toNat = a + n := by omega
  have h' : ¬ (40 < (a : Int) + n) := by omega
  go_enter Tryz.func36,Tryz.ntmps36
  go_wp2_with (fail)
  go_loopw [8,20] (fun _ jv wr => ∃ j : Nat,jv = .int .i64 j ∧ j ≤ n ∧ (∀ m,m < j → row[a + m]? = some 0) ∧ wr = w) (fun _ jv _ => ((n : Int) - intOf jv).toNat)
  case atStart => exact ⟨0,rfl,Nat.zero_le _,fun m hm => absurd hm (Nat.not_lt_zero _),rfl⟩
  case round =>
   obtain ⟨j,rfl,hj,hz,rfl⟩ := hrel
   have hn9 : (n : Int) ≤ 40 := by omega
   rcases Nat.lt_or_ge j n with hlt | hge
   ·have hlt' : (j : Int) < n := by omega
    have hx := List.getElem?_eq_getElem (show a + j < row.length by omega)
    generalize row[a + j]'(by omega) = x at hx
    have hcell := hb.cell hx
    by_cases hx0 : x = 0
    ·subst hx0
     go_wp2_with (fail)
     exact ⟨⟨j + 1,rfl,by omega,fun m hm => by
      rcases Nat.lt_or_ge m j with h | h
      ·exact hz m h
      ·obtain rfl : m = j := by omega
       exact hx,trivial⟩,by simp only [intOf]; omega⟩
    ·have hf : freeB row a n = false := decide_eq_false fun q => hx0 (by
      have := q.2 j (by simpa using hlt)
      rw [Int.toNat_natCast,hx] at this
      exact Option.some.inj this)
     go_wp2_with (fail)
     go_ret
     exact ⟨by rw [hf]; rfl,rfl⟩
   ·obtain rfl : j = n := by omega
    have hge' : ¬ ((j : Nat) : Int) < (j : Int) := by omega
    have hf : freeB row a j = true := decide_eq_true ⟨h,fun m hm => by rw [Int.toNat_natCast] at hm ⊢; exact hz m hm⟩
    go_wp2_with (fail)
    go_ret
    exact ⟨rfl,rfl⟩
 ·have hf : freeB row a n = false := decide_eq_false fun q => h q.1
  rw [hf]
  go_enter Tryz.func36,Tryz.ntmps36
  go_wp2_with (fail)
  go_ret
  exact ⟨rfl,rfl⟩
theorem Z1f (w : World) (b : Nat) (row : List Int) (hb : RowB 2 b row w) (hl : row.length = 40) (a n : Nat) (ha : a + n ≤ 40) (v : Int) :
 Calls Tryz.prog 37 #[.slice (some ⟨b,0,none⟩) 40 40,.int .i64 a,.int .i64 n,.int .i64 v] w fun e w' => e = .returned (.tuple #[]) ∧ RowB 2 b (fillN row a n v) w' ∧ Rg (fun c => c = b) w w' := by
 go_enter Tryz.func37,Tryz.ntmps37
 go_wp2_with (fail)
 go_loopw [8] (fun iv wr => ∃ t : Nat,iv = .int .i64 (a + t : Nat) ∧ t ≤ n ∧ RowB 2 b (fillN row a t v) wr ∧ Rg (fun c => c = b) w wr)
  (fun iv _ => (((a + n : Nat) : Int) - intOf iv).toNat)
 case atStart => exact ⟨0,rfl,by omega,by rw [Z15]; exact hb,Rg.refl _ _⟩
 case round =>
  obtain ⟨t,rfl,ht,B,R⟩ := hrel
  have ha9 : ((a + n : Nat) : Int) ≤ 40 := by omega
  rcases Nat.lt_or_ge t n with hlt | hge
  ·have hlt' : ((a + t : Nat) : Int) < (a : Int) + n := by omega
   have hat : a + t < 40 := by omega
   have hlen : (fillN row a t v).length = 40 := by rw [Ze5 (by omega)]; exact hl
   have hcell := B.cell (k := a + t) (List.getElem?_eq_getElem (by omega))
   have hfz := B.frozen (a + t)
   have B2 := B.set (a + t) v
   rw [Z1n (by omega)] at B2
   go_wp2_with (fail)
   exact ⟨⟨t + 1,by congr 1,by omega,B2,R.setCell rfl⟩,by simp only [intOf]; omega⟩
  ·obtain rfl : t = n := by omega
   have hge' : ¬ ((a + t : Nat) : Int) < (a : Int) + t := by omega
   go_wp2_with (fail)
   refine bodyPost_end (results_none rfl _ _ _) rfl ⟨rfl,B,R⟩
end
section
open Go.Ab Go.Proofs
section
variable {S n cv Bp pb : Nat} {rb : Nat → Nat} {list : List workE.ty} {w0 : World} {av : Option Addr} {cp : Nat}
set_option maxHeartbeats 6400000 in
theorem Z3i (hD : PwD n Bp pb rb) (hX : S ≤ Bp ∧ S ≤ pb ∧ ∀ j,j < n → S ≤ rb j) (hn : n ≤ 6) (hll : list.length ≤ 1000) (hsm : list.all smallW = true)
 (hls : ∀ (i : Nat) (x : workE.ty),list[i]? = some x → ∃ b o cap,Value.slice av list.length cp = .slice (some ⟨b,o,none⟩) list.length cap ∧ b < S ∧
   w0.cell? ⟨b,o + i * 4,none⟩ = some (.string ⟨x.1.toArray⟩) ∧ w0.cell? ⟨b,o + i * 4 + 1,none⟩ = some (.int .i64 (wkD x)) ∧ w0.cell? ⟨b,o + i * 4 + 2,none⟩ = some (.int .i64 (wkF x)) ∧ w0.cell? ⟨b,o + i * 4 + 3,none⟩ = some (.int .i64 (wkL x))) :
 ∀ (xs : List workE.ty) (k : Nat) (kI : Int),kI = k → k ≤ list.length → list.drop k = xs → ∀ (w : World) (rows : List (List Int)) (left : Int) (r : PwR),srch xs kI rows left = r → Lo S w0 w → S ≤ w.heap.size → 0 ≤ left → left ≤ 20000 →
   PwS 53 35 2 Bp pb rb n cv (.slice av list.length cp) rows left w →
   Calls Tryz.prog 20 #[.pointer (some ⟨Bp,0,none⟩),.int .i64 kI] w fun e w' => e = .returned (.tuple #[.bool r.1,.bool r.2.1]) ∧ PwS 53 35 2 Bp pb rb n cv (.slice av list.length cp) r.2.2.1 r.2.2.2 w' ∧ Rg (fun c => c = Bp ∨ ∃ j,j < n ∧ c = rb j) w w' ∧ 0 ≤ r.2.2.2 ∧ r.2.2.2 ≤ 20000 := by
 intro xs
 induction xs with
 | nil =>
   intro k kI hk hkl hdr w rows left r hr L0 hS0 hl0 hl1 N
   subst hk
   have hke : k = list.length := by
    have := congrArg List.length hdr
    simp at this; omega
   have hk9 : (k : Int) ≤ 1000 := by omega
   have hke' : (k : Int) = (list.length : Int) := by omega
   rw [srch] at hr
   subst hr
   have b0 := N.c0
   have b1 := N.c1
   have b2 := N.c2
   go_enter Tryz.func20,Tryz.ntmps20
   go_wp2_with (fail)
   go_ret2
   exact ⟨rfl,N,Rg.refl _ _,hl0,hl1⟩
 | cons x xs ih =>
   intro k kI hk hkl hdr w rows left r hr L0 hS0 hl0 hl1 N
   subst hk
   have hlt : k < list.length := by
    have := congrArg List.length hdr
    simp at this; omega
   rw [List.drop_eq_getElem_cons hlt] at hdr
   injection hdr with hx hdr
   have hxk : list[k]? = some x := by rw [List.getElem?_eq_getElem hlt,hx]
   have hs := List.all_eq_true.1 hsm x (List.mem_of_getElem? hxk)
   obtain ⟨lb,lo,lcap,e1,hlb,c0,c1,c2,c3⟩ := hls k x hxk
   injection e1 with e1 _ e2
   subst e1 e2
   rw [Zwe] at hr
   simp only [smallW,Bool.and_eq_true,decide_eq_true_eq] at hs
   obtain ⟨⟨⟨⟨⟨s1,s2⟩,s3⟩,s4⟩,s5⟩,s6⟩ := hs
   obtain ⟨dn,hdn⟩ : ∃ m : Nat,wkD x = (m : Int) := ⟨(wkD x).toNat,by omega⟩
   obtain ⟨fn,hfn⟩ : ∃ m : Nat,wkF x = (m : Int) := ⟨(wkF x).toNat,by omega⟩
   obtain ⟨ln,hln⟩ : ∃ m : Nat,wkL x = (m : Int) := ⟨(wkL x).toNat,by omega⟩
   rw [hdn] at c1 s1 s2 hr
   rw [hfn] at c2 s3 s4 hr
   rw [hln] at c3 s5 s6 hr
   generalize (⟨x.1.toArray⟩ : ByteArray) = xid at c0
   clear hx hxk hdn hfn hln hls
   rw [N.len] at hr
   have b0 := N.c0
   have b1 := N.c1
   have b2 := N.c2
   have hk9 : (k : Int) < 1000 := by omega
   have hke : ¬ (k : Int) = (list.length : Int) := by omega
   have hup : ∀ o,w.cell? ⟨lb,o,none⟩ = w0.cell? ⟨lb,o,none⟩ := fun o => by simp only [World.cell?,L0.block lb hlb]
   rw [← hup] at c0 c1 c2 c3
   have N1 := N.alloc (.cells #[.string xid,.int .i64 dn,.int .i64 fn,.int .i64 ln] 39)
   have d1 := N1.c1
   have hz1 : (w.alloc (.cells #[.string xid,.int .i64 dn,.int .i64 fn,.int .i64 ln] 39)).heap.size = w.heap.size + 1 := by simp
   have hbx : (w.alloc (.cells #[.string xid,.int .i64 dn,.int .i64 fn,.int .i64 ln] 39)).heap[w.heap.size]? = some (.cells #[.string xid,.int .i64 dn,.int .i64 fn,.int .i64 ln] 39) := Ze6 _ _ rfl
   have R1 : Rg (fun c => c = Bp ∨ ∃ j,j < n ∧ c = rb j) w (w.alloc (.cells #[.string xid,.int .i64 dn,.int .i64 fn,.int .i64 ln] 39)) := Rg.of_lo ((Lo.refl _ _).alloc (Nat.le_refl _) _)
   have hnX : ¬ (w.heap.size = Bp ∨ ∃ j,j < n ∧ w.heap.size = rb j) := by
    obtain ⟨q1,_,q3⟩ := N.lts
    rintro (q | ⟨j,hj,q⟩)
    ·omega
    ·have := q3 j hj; omega
   have hXS : ∀ c,(c = Bp ∨ ∃ j,j < n ∧ c = rb j) → S ≤ c := by
    rintro c (rfl | ⟨j,hj,rfl⟩)
    ·exact hX.1
    ·exact hX.2.2 j hj
   go_enter Tryz.func20,Tryz.ntmps20
   go_wp2_with (fail)
   generalize hW1 : w.alloc (.cells #[.string xid,.int .i64 dn,.int .i64 fn,.int .i64 ln] 39) = w1 at *
   clear hW1 c0 c1 c2 c3 hup
   go_loopw [4,5,8,9,29] (fun _ _ _ _ iv wr => ∃ (i : Nat) (rows : List (List Int)) (left : Int),iv = .int .i64 i ∧ i ≤ n ∧ finR (rowL (srch xs (k + 1)) fn dn ln k (n - i) i rows left) = r ∧ PwS 53 35 2 Bp pb rb n cv (.slice (some ⟨lb,lo,none⟩) list.length cp) rows left wr ∧ Rg (fun c => c = Bp ∨ ∃ j,j < n ∧ c = rb j) w1 wr ∧ 0 ≤ left ∧ left ≤ 20000)
    (fun _ _ _ _ iv _ => ((n : Int) - intOf iv).toNat)
   case atStart => exact ⟨0,rows,left,rfl,Nat.zero_le _,hr,N1,Rg.refl _ _,hl0,hl1⟩
   case round =>
    clear hr N N1 d1 b0 b1 b2 hl0 hl1
    obtain ⟨i,rows,left,rfl,hi,hr,N,R,hl0,hl1⟩ := hrel
    have boxat : ∀ {u : World},Rg (fun c => c = Bp ∨ ∃ j,j < n ∧ c = rb j) w1 u → u.heap[w.heap.size]? = some (.cells #[.string xid,.int .i64 dn,.int .i64 fn,.int .i64 ln] 39) := fun h => (h.block _ (by omega) hnX).trans hbx
    rcases Nat.lt_or_ge i n with hlt2 | hge
    ·have hlt' : (i : Int) < n := by omega
     obtain ⟨m,hm⟩ : ∃ m,n - i = m + 1 := ⟨n - i - 1,by omega⟩
     rw [hm,Z3a] at hr
     have hcell := N.cell hlt2
     have hb0 := boxat R
     have g2 : wr.cell? ⟨w.heap.size,2,none⟩ = some (.int .i64 fn) := by simp [World.cell?,hb0]
     have hn9 : (n : Int) ≤ 6 := by omega
     go_wp2_with (fail)
     go_loopw [4,5,9] (fun _ _ dv wr => ∃ (d f : Nat) (rows : List (List Int)) (left : Int),dv = .int .i64 d ∧ d ≤ 40 ∧ ln + 1 ≤ d + f ∧ finR (contR (srch xs (k + 1)) fn dn ln k m i (dayL (srch xs (k + 1)) i dn ln k f d rows left)) = r ∧ PwS 53 35 2 Bp pb rb n cv (.slice (some ⟨lb,lo,none⟩) list.length cp) rows left wr ∧ Rg (fun c => c = Bp ∨ ∃ j,j < n ∧ c = rb j) w1 wr ∧ 0 ≤ left ∧ left ≤ 20000)
      (fun _ _ dv _ => ((ln : Int) + 1 - intOf dv).toNat)
     case atStart => exact ⟨fn,((ln : Int) + 1 - fn).toNat,rows,left,rfl,by omega,by omega,hr,N,R,hl0,hl1⟩
     case round =>
      clear hr N R hl0 hl1 hcell hb0 g2
      obtain ⟨d,f,rows,left,rfl,hd,hf,hr,N,R,hl0,hl1⟩ := hrel
      have hb0 := boxat R
      have g1 : wr.cell? ⟨w.heap.size,1,none⟩ = some (.int .i64 dn) := by simp [World.cell?,hb0]
      have g3 : wr.cell? ⟨w.heap.size,3,none⟩ = some (.int .i64 ln) := by simp [World.cell?,hb0]
      have hd9 : (d : Int) ≤ 40 := by omega
      by_cases hday : (d : Int) + dn - 1 ≤ ln
      ·obtain ⟨f,rfl⟩ : ∃ f',f = f' + 1 := ⟨f - 1,by omega⟩
       rw [dayL,if_pos hday] at hr
       obtain ⟨hRB,hRl⟩ := N.row i hlt2
       have hfree := Z55 wr (rb i) (Go.Ab.rowAt rows i) hRB hRl d dn (by omega) (by omega)
       cases hfb : freeB (Go.Ab.rowAt rows i) d dn with
       | false =>
         rw [hfb] at hfree hr
         simp only [Bool.false_eq_true,if_false] at hr
         clear hfb
         go_wp2_with (fail)
         go_at_call 36
         refine hfree.mono ?_
         rintro e w' ⟨rfl,rfl⟩
         go_wp2_with (fail)
         exact ⟨⟨d + 1,f,rows,left,by congr 1,by omega,by omega,hr,N,R,hl0,hl1⟩,by simp only [intOf]; omega⟩
       | true =>
         rw [hfb] at hfree
         rw [if_pos hfb] at hr
         clear hfb
         have b2 := N.c2
         by_cases hl : left = 0
         ·rw [if_pos hl] at hr
          subst hl
          go_wp2_with (fail)
          go_at_call 36
          refine hfree.mono ?_
          rintro e w' ⟨rfl,rfl⟩
          go_wp2_with (fail)
          go_ret2
          subst hr
          exact ⟨rfl,N,R1.trans R,by show (0 : Int) ≤ 0; omega,by show (0 : Int) ≤ 20000; omega⟩
         ·rw [if_neg hl] at hr
          simp only [Int.toNat_natCast] at hr
          have hfz := N.fz 2
          have N2 := N.left' hD (left - 1)
          have hfill := Z1f _ (rb i) (Go.Ab.rowAt rows i) (N2.row i hlt2).1 hRl d dn (by omega) (k + 1)
          generalize hr0 : srch xs ((k : Int) + 1) (rows.set i (fillN (Go.Ab.rowAt rows i) d dn ((k : Int) + 1))) (left - 1) = r0 at hr
          obtain ⟨f0,o0,rows4,left4⟩ := r0
          have R2 : Rg (fun c => c = Bp ∨ ∃ j,j < n ∧ c = rb j) w1 (wr.setCell ⟨Bp,2,none⟩ (.int .i64 (left - 1))) := R.setCell (.inl rfl)
          have hb2 := boxat R2
          have q1 : (wr.setCell ⟨Bp,2,none⟩ (.int .i64 (left - 1))).cell? ⟨w.heap.size,1,none⟩ = some (.int .i64 dn) := by simp [World.cell?,hb2]
          go_wp2_with (fail)
          go_at_call 36
          refine hfree.mono ?_
          rintro e w' ⟨rfl,rfl⟩
          go_wp2_with (fail)
          refine hfill.mono ?_
          rintro e w3 ⟨rfl,B3,R3⟩
          have N3 := N2.turn hD hlt2 B3 (by rw [Ze5 (by omega)]; exact hRl) R3
          replace R3 : Rg (fun c => c = Bp ∨ ∃ j,j < n ∧ c = rb j) w1 w3 := R2.trans (R3.mono fun c hc => .inr ⟨i,hlt2,hc⟩)
          clear R2 hb2 q1 N2 B3 hfree hfill hRB hb0 g1 g3 b2 hfz
          have L3 : Lo S w0 w3 := L0.rg (R1.trans R3) hXS hS0
          have call := ih (k + 1) ((k : Int) + 1) (by omega) (by omega) hdr w3 _ _ _ hr0 L3 (by have := R1.size; have := R3.size; omega) (by omega) (by omega) N3
          clear N N3
          cases f0 with
          | true =>
            go_wp2_with (fail)
            go_at_call 20
            refine call.mono ?_
            rintro e w4 ⟨rfl,N4,R4,hl4,hl5⟩
            replace R4 := R3.trans R4
            go_wp2_with (fail)
            go_ret2
            subst hr
            exact ⟨rfl,N4,R1.trans R4,hl4,hl5⟩
          | false =>
            cases o0 with
            | false =>
              go_wp2_with (fail)
              go_at_call 20
              refine call.mono ?_
              rintro e w4 ⟨rfl,N4,R4,hl4,hl5⟩
              replace R4 := R3.trans R4
              go_wp2_with (fail)
              go_ret2
              subst hr
              exact ⟨rfl,N4,R1.trans R4,hl4,hl5⟩
            | true =>
              simp only [Bool.false_eq_true,Bool.true_eq_false,or_self,if_false] at hr
              go_wp2_with (fail)
              go_at_call 20
              refine call.mono ?_
              rintro e w4 ⟨rfl,N4,R4,hl4,hl5⟩
              replace R4 := R3.trans R4
              have N4 : PwS 53 35 2 Bp pb rb n cv (.slice (some ⟨lb,lo,none⟩) list.length cp) rows4 left4 w4 := N4
              obtain ⟨B4,Bl4⟩ := N4.row i hlt2
              have hfill2 := Z1f _ (rb i) (Go.Ab.rowAt rows4 i) B4 Bl4 d dn (by omega) 0
              have hb4 := boxat R4
              have q4 : w4.cell? ⟨w.heap.size,1,none⟩ = some (.int .i64 dn) := by simp [World.cell?,hb4]
              go_wp2_with (fail)
              go_at_call 37
              refine hfill2.mono ?_
              rintro e w5 ⟨rfl,B5,R5⟩
              have N5 := N4.turn hD hlt2 B5 (by rw [Ze5 (by omega)]; exact Bl4) R5
              replace R5 : Rg (fun c => c = Bp ∨ ∃ j,j < n ∧ c = rb j) w1 w5 := R4.trans (R5.mono fun c hc => .inr ⟨i,hlt2,hc⟩)
              go_wp2_with (fail)
              exact ⟨⟨d + 1,f,_,left4,by congr 1,by omega,by omega,hr,N5,R5,hl4,hl5⟩,by simp only [intOf]; omega⟩
      ·have hdl : dayL (srch xs (k + 1)) i dn ln k f d rows left = .inr (rows,left) := by
        cases f with
        | zero => rfl
        | succ f => rw [dayL,if_neg hday]
       rw [hdl] at hr
       clear hdl
       go_wp2_with (fail)
       exact ⟨⟨i + 1,rows,left,by congr 1,by omega,by rw [show n - (i + 1) = m from by omega]; exact hr,N,R,hl0,hl1⟩,by simp only [intOf]; omega⟩
    ·obtain rfl : i = n := by omega
     rw [Nat.sub_self] at hr
     have hge' : ¬ ((i : Nat) : Int) < (i : Int) := by omega
     go_wp2_with (fail)
     go_ret2
     subst hr
     exact ⟨rfl,N,R1.trans R,hl0,hl1⟩
end
end
section
open Go.Ab Go.Proofs
theorem Z4n {P : Program} {ops : Array Oper} {o : Oper} {a : Act} {K : Act → World → Prop} {Q : Exit → Act → World → Prop} {E : Prop} {w w' : World} {u v r : Value} {t ty : TypeId} (hr : (Builtin.append_ #[t,t] ty #[u,v]).run P w = .ok r w') (hgd : o.guard = none) (x y : Operand) (hty : o.type = ty)
 (ho : o.op = .call { callee := .builtin .append,args := #[x,y],argTypes := #[t,t] }) (hx : a.eval x = u) (hy : a.eval y = v) (h : K (a.put o.dst r) w') : if Region.wanted o (yielded ops a.tmps) = true then Oper.wp P o a w K Q else E := by
 have hw : Region.wanted o (yielded ops a.tmps) = true := by simp [Region.wanted,hgd]
 rw [if_pos hw]
 subst hty
 unfold Oper.wp
 simp only [execOp,ho,resolve,invoke,builtin,Sem.run_bind,Sem.run_pure,Result.andThen_ok,List.map_toArray,List.map_cons,List.map_nil,hx,hy,hr]
 exact h
theorem Zvq : (Tryz.prog.info? 35).map (fun i => (i.zero,i.size,i.bytes)) = some (some (.slice none 0 0),1,24) := by kernel_rfl
theorem Z4h : (Tryz.prog.info? 2).map (fun i => (i.zero,i.size,i.bytes)) = some (some (.int .i64 0),1,8) := by kernel_rfl
theorem Z5d (u : World) : (Instr.makeSlice 35 (.int .i64 40) (.int .i64 40)).run Tryz.prog u = .ok (.slice (some ⟨u.heap.size,0,none⟩) 40 40) (u.alloc (.cells ((List.replicate 40 (0 : Int)).map (Value.int .i64)).toArray 2)) := by
 obtain ⟨i,hi,he⟩ := Option.map_eq_some_iff.1 Z4h
 simp only [Prod.mk.injEq] at he
 have h := run_make (P := Tryz.prog) u 35 2 i _ Tryz.underlying35 hi he.1 .i64 .i64 40 40 (by omega) (Int.le_refl _) (by rw [he.2.2]; omega) (by omega)
 have e : madeCells (Value.int .i64 0).cells ((40 : Int).toNat * i.size) = ((List.replicate 40 (0 : Int)).map (Value.int .i64)).toArray := by
  rw [he.2.1]; kernel_rfl
 rw [e] at h
 exact h
set_option maxHeartbeats 6400000 in
theorem Z6d : Zw0 Tryz.prog 6 18 := ⟨⟨_,Tryz.func6,by decide +kernel,rfl⟩,by
 intro φ gv vw hφ ov n xs c y hy w K v hr hK hG
 obtain ⟨iR,hiR,heR⟩ := Option.map_eq_some_iff.1 Zvq
 simp only [Prod.mk.injEq] at heR
 obtain ⟨zR,sR,bR⟩ := heR
 unfold placeF at hy
 obtain ⟨vb,hvb,hy1⟩ := Option.bind_eq_some_iff.1 hy
 clear hy
 have hcall := (ov _ _ hvb).bool (w := w) (K := K) (vs := [v]) (.cons _ _ _ _ hr .nil) hK hG
 rw [hφ] at hcall
 obtain ⟨⟨av,cp,rfl⟩,hls⟩ := Z59 hr
 have hcall : Calls Tryz.prog 18 #[.slice av xs.length cp] w fun e w' => e = .returned (.bool vb) ∧ Lo w.heap.size w w' := hcall
 cases vb with
 | false =>
   rw [if_pos rfl] at hy1
   cases hy1
   go_enter Tryz.func6,Tryz.ntmps6
   go_wp2_with (fail)
   go_at_call 18
   refine hcall.mono ?_
   rintro e w1 ⟨rfl,L1⟩
   go_wp2_with (fail)
   go_ret2
   exact ⟨_,rfl,L1,.slE none 0 1⟩
 | true =>
   rw [if_neg (by decide)] at hy1
   by_cases hn : 1 ≤ n ∧ n ≤ 6
   rotate_left
   ·rw [if_pos (fun h => hn ⟨h.1,h.2.1⟩)] at hy1
    cases hy1
    have hb : (decide (1 ≤ n) && decide (n ≤ 6)) = false := by simp only [Bool.and_eq_false_iff,decide_eq_false_iff_not]; omega
    go_enter Tryz.func6,Tryz.ntmps6
    go_wp2_with (fail)
    go_at_call 18
    refine hcall.mono ?_
    rintro e w1 ⟨rfl,L1⟩
    have hw := Zhs w1 n 1 6
    rw [hb] at hw
    go_wp2_with (fail)
    go_at_call 19
    refine hw.mono ?_
    rintro e w' ⟨rfl,rfl⟩
    go_wp2_with (fail)
    go_ret2
    exact ⟨_,rfl,L1,.slE none 0 1⟩
   by_cases hc : 1 ≤ c ∧ c ≤ 20000
   rotate_left
   ·rw [if_pos (fun h => hc h.2.2)] at hy1
    cases hy1
    have hb : (decide (1 ≤ n) && decide (n ≤ 6)) = true := by simp only [Bool.and_eq_true,decide_eq_true_eq]; omega
    have hb2 : (decide (1 ≤ c) && decide (c ≤ 20000)) = false := by simp only [Bool.and_eq_false_iff,decide_eq_false_iff_not]; omega
    go_enter Tryz.func6,Tryz.ntmps6
    go_wp2_with (fail)
    go_at_call 18
    refine hcall.mono ?_
    rintro e w1 ⟨rfl,L1⟩
    have hw := Zhs w1 n 1 6
    have hw2 := Zhs w1 c 1 20000
    rw [hb] at hw
    rw [hb2] at hw2
    go_wp2_with (fail)
    go_at_call 19
    refine hw.mono ?_
    rintro e w' ⟨rfl,rfl⟩
    go_wp2_with (fail)
    go_at_call 19
    refine hw2.mono ?_
    rintro e w' ⟨rfl,rfl⟩
    go_wp2_with (fail)
    go_ret2
    exact ⟨_,rfl,L1,.slE none 0 1⟩
   rw [if_neg (fun h => h ⟨hn.1,hn.2,hc⟩)] at hy1
   split at hy1
   rotate_left
   ·cases hy1
   rename_i hsm
   obtain ⟨hlen,hsm⟩ := hsm
   obtain ⟨m,rfl⟩ : ∃ m : Nat,n = m := ⟨n.toNat,by omega⟩
   rw [Int.toNat_natCast] at hy1
   have hm1 : 1 ≤ m := by omega
   have hm6 : m ≤ 6 := by omega
   have hm9 : (m : Int) ≤ 6 := by omega
   have hb : (decide (1 ≤ (m : Int)) && decide ((m : Int) ≤ 6)) = true := by simp only [Bool.and_eq_true,decide_eq_true_eq]; omega
   have hb2 : (decide (1 ≤ c) && decide (c ≤ 20000)) = true := by simp only [Bool.and_eq_true,decide_eq_true_eq]; omega
   obtain ⟨hc1,hc2⟩ := hc
   clear hn
   go_enter Tryz.func6,Tryz.ntmps6
   go_wp2_with (fail)
   go_at_call 18
   refine hcall.mono ?_
   rintro e w1 ⟨rfl,L1⟩
   have hw := Zhs w1 m 1 6
   have hw2 := Zhs w1 c 1 20000
   rw [hb] at hw
   rw [hb2] at hw2
   go_wp2_with (fail)
   go_at_call 19
   refine hw.mono ?_
   rintro e w' ⟨rfl,rfl⟩
   go_wp2_with (fail)
   go_at_call 19
   refine hw2.mono ?_
   rintro e w' ⟨rfl,rfl⟩
   have hS1 := L1.size
   have hz1 : (w'.alloc (.cells #[.slice av xs.length cp,.slice none 0 0,.int .i64 c] 53)).heap.size = w'.heap.size + 1 := by simp
   have L2 : Lo w.heap.size w (w'.alloc (.cells #[.slice av xs.length cp,.slice none 0 0,.int .i64 c] 53)) := L1.alloc hS1 _
   have N0 : PwB 53 35 2 w.heap.size w'.heap.size (.slice av xs.length cp) 0 (.slice none 0 0) c (w'.alloc (.cells #[.slice av xs.length cp,.slice none 0 0,.int .i64 c] 53)) :=
    ⟨Ze6 _ _ rfl,[],none,fun _ => 0,.empty none,rfl,fun i hi => absurd hi (Nat.not_lt_zero _),fun i k hi => absurd hi (Nat.not_lt_zero _),fun b hb => by cases hb⟩
   clear hcall hw hw2 hb hb2 hvb ov
   go_wp2_with (fail)
   generalize w'.heap.size = Bp at *
   go_loopw [27] (fun iv wr => ∃ (j : Nat) (pv : Value),iv = .int .i64 j ∧ j ≤ m ∧ PwB 53 35 2 w.heap.size Bp (.slice av xs.length cp) j pv c wr ∧ Lo w.heap.size w wr)
    (fun iv _ => ((m : Int) - intOf iv).toNat)
   case atStart => exact ⟨0,_,rfl,Nat.zero_le _,N0,L2⟩
   case round =>
    clear N0 L2
    obtain ⟨j,pv,rfl,hj,N,L⟩ := hrel
    rcases Nat.lt_or_ge j m with hlt | hge
    ·have hlt' : (j : Int) < m := by omega
     have N1 := N.keep hS1 (w' := wr.drew) fun _ _ => rfl
     obtain ⟨ad,n',cp',w7,hrun,hB7,N7,L7⟩ := N1.step (i := iR) (t := 27) (P := Tryz.prog) (show w.heap.size ≤ wr.drew.heap.size from L.size) (by omega) Tryz.underlying27 hiR sR zR rfl (by rw [bR]; omega) 1 27
     have b1 : wr.cell? ⟨Bp,1,none⟩ = some pv := by simp [World.cell?,N.box]
     have hm := Z5d
     have hB9 := hB7.trans N1.box
     have b7 : w7.cell? ⟨Bp,1,none⟩ = some pv := by simp [World.cell?,hB9]
     have z7 : w7.frozen? ⟨Bp,1,none⟩ = false := by simp [World.frozen?,hB9]
     generalize ((List.replicate 40 (0 : Int)).map (Value.int .i64)).toArray = zs at hm hrun
     have hzA : (wr.alloc (.cells zs 2)).heap.size = wr.heap.size + 1 := by simp
     have bA : (wr.alloc (.cells zs 2)).cell? ⟨Bp,1,none⟩ = some pv := by
      rw [← b1]; simp only [World.cell?,Zaj wr (.cells zs 2) (Ze4 N.box)]
     have bC : ((wr.alloc (.cells zs 2)).alloc (.cells #[.slice (some ⟨wr.heap.size,0,none⟩) 40 40] 35)).cell? ⟨Bp,1,none⟩ = some pv := by
      rw [← bA]; simp only [World.cell?,Zaj (wr.alloc (.cells zs 2)) (.cells #[.slice (some ⟨wr.heap.size,0,none⟩) 40 40] 35) (show Bp < (wr.alloc (.cells zs 2)).heap.size by rw [hzA]; have := Ze4 N.box; omega)]
     clear hB7 hB9 N1
     go_wp2_with (fail)
     go_region_law (first | (refine Z4n hrun rfl _ _ rfl rfl rfl rfl ?_) | fail)
     all_goals go_wp2_with (fail)
     all_goals exact ⟨⟨j + 1,_,rfl,by omega,N7,(Lo.drew L).trans (L7.trans ((Lo.refl _ _).setCell hS1))⟩,by simp only [intOf]; omega⟩
    ·obtain rfl : j = m := by omega
     have hge' : ¬ ((j : Nat) : Int) < (j : Int) := by omega
     obtain ⟨pb,cv,rb,rfl,hcv,hD,N2,hSp,hSr⟩ := N.done (by omega)
     have call := Z3i (S := w.heap.size) (w0 := w) hD ⟨hS1,hSp,hSr⟩ hm6 hlen hsm (fun i x hx => by
      obtain ⟨b,o,cap,e1,e2,e3⟩ := hls i x hx
      exact ⟨b,o,cap,e1,hK b e2,e3⟩) xs 0 0 rfl (Nat.zero_le _) rfl wr _ c _ rfl L L.size (by omega) hc2 N2
     have hXS : ∀ c,(c = Bp ∨ ∃ i,i < j ∧ c = rb i) → w.heap.size ≤ c := by
      rintro c (rfl | ⟨i,hi,rfl⟩)
      ·exact hS1
      ·exact hSr i hi
     generalize srch xs 0 (List.replicate j (List.replicate 40 0)) c = r at hy1 call
     obtain ⟨f0,o0,rows4,left4⟩ := r
     clear N N2 hls hr
     go_wp2_with (fail)
     go_at_call 20
     refine call.mono ?_
     rintro e w4 ⟨rfl,N4,R4,_,_⟩
     have N4 : PwS 53 35 2 Bp pb rb j cv (.slice av xs.length cp) rows4 left4 w4 := N4
     have L4 : Lo w.heap.size w w4 := L.rg R4 hXS L.size
     have b4 := N4.c1
     clear call
     cases o0 with
     | false =>
       rw [if_pos rfl] at hy1
       cases hy1
       go_wp2_with (fail)
       go_ret2
       exact ⟨_,rfl,L4,.slE none 0 1⟩
     | true =>
       rw [if_neg (by simp)] at hy1
       cases f0 with
       | false =>
         rw [if_pos rfl] at hy1
         cases hy1
         go_wp2_with (fail)
         go_ret2
         exact ⟨_,rfl,L4,.slE none 0 1⟩
       | true =>
         rw [if_neg (by simp)] at hy1
         cases hy1
         obtain ⟨l1,l2,l3⟩ := N4.lts
         go_wp2_with (fail)
         go_ret2
         exact ⟨_,rfl,L4,N4.data hcv ⟨⟨hSp,l2⟩,fun i hi => ⟨hSr i hi,l3 i hi⟩⟩⟩⟩
end
theorem Zh6 : FOk Tryz.prog phi 369 Zb4 := Z30 (g := 369) (gv := 715) Z6d (by kernel_rfl) (fun l b h => Z2l Zdp h)
theorem Zqp : FOk Tryz.prog phi 787 Zeu := fn_ok hm (D := Zcv) (DOk.cons Zcb DOk.nil) (by kernel_rfl) _ _ _ _
section
open Go.Ab Go.Proofs
set_option maxHeartbeats 6400000 in
theorem Z5q : Zo0 Tryz.prog 22 := ⟨⟨_,Tryz.func22,by decide +kernel,rfl⟩,by
 intro φ xs c ys hY w K v hr hK
 obtain ⟨iR,hiR,heR⟩ := Option.map_eq_some_iff.1 Zvq
 simp only [Prod.mk.injEq] at heR
 obtain ⟨zR,sR,bR⟩ := heR
 unfold partsF at hY
 split at hY
 rotate_left
 ·cases hY
 rename_i hc
 obtain ⟨hl,hall⟩ := hc
 replace hY := Option.some.inj hY
 obtain ⟨⟨av,cv,rfl⟩,hrow⟩ := Z1i hr
 have hxl : (xs.length : Int) ≤ 1000 := by omega
 go_enter Tryz.func22,Tryz.ntmps22
 go_wp2_with (fail)
 have L0 : Lo w.heap.size w (w.alloc (.cells #[] 35)) := (Lo.refl _ _).alloc (Nat.le_refl _) _
 go_loopw [5,13] (fun vo iv wr => ∃ (i : Nat) (out : List (List Int)) (O : Nat → Prop),iv = .int .i64 i ∧ i ≤ xs.length ∧ out.length ≤ i * 40 ∧ out ++ partsL c i (xs.drop i) = ys ∧ NestP φ 35 out vo O wr ∧ (∀ b,O b → w.heap.size ≤ b ∧ b < wr.heap.size) ∧ Lo w.heap.size w wr)
  (fun _ iv _ => ((xs.length : Int) - intOf iv).toNat)
 case atStart => exact ⟨0,[],fun _ => False,rfl,Nat.zero_le _,Nat.zero_le _,by simpa using hY,.nil _ _ _,fun b hb => hb.elim,L0⟩
 case round =>
  clear L0 hY
  obtain ⟨i,out,O,rfl,hi,hol,hY,N,hO,L⟩ := hrel
  have hi9 : (i : Int) ≤ 1000 := by omega
  rcases Nat.lt_or_ge i xs.length with hlt | hge
  ·have hlt' : (i : Int) < xs.length := by omega
   have hxi := List.getElem?_eq_getElem hlt
   rw [List.drop_eq_getElem_cons hlt,partsL,← List.append_assoc] at hY
   have hrl : (xs[i]).length = 40 := by
    have := List.all_eq_true.1 hall xs[i] (List.getElem_mem hlt)
    simpa using this
   generalize xs[i] = row at hxi hY hrl
   obtain ⟨b,o,cap,a,n,c2,e1,hc1,hKb,hrr⟩ := hrow i row hxi
   injection e1 with e1 _ e2
   subst e1 e2
   obtain ⟨rb,ro,rc,e3,hKr,hcells⟩ := Z1c hrr (by intro h; rw [h] at hrl; cases hrl)
   rw [e3,hrl] at hc1
   clear hrr e3 hrow
   generalize hout1 : out ++ runsR c i 0 none row = out1 at hY
   have upc : ∀ {u : World},Lo w.heap.size w u → ∀ o',u.cell? ⟨rb,o',none⟩ = w.cell? ⟨rb,o',none⟩ := fun hu o' => by simp only [World.cell?,hu.block rb (hK rb hKr)]
   have hcell : wr.cell? ⟨b,o + i,none⟩ = some (.slice (some ⟨rb,ro,none⟩) 40 rc) := by
    rw [← hc1]; simp only [World.cell?,L.block b (hK b hKb)]
   go_wp2_with (fail)
   go_loopw [5,20] (fun vo dv wr => ∃ (d : Nat) (done : List (List Int)) (p : Option (Int × Int)) (O : Nat → Prop),dv = .int .i64 d ∧ d ≤ 40 ∧ done.length + (curR i p).length ≤ i * 40 + d ∧ done ++ runsR c i d p (row.drop d) = out1 ∧ (d = 0 → p = none) ∧ (∀ m y,d = m + 1 → row[m]? = some y → (y = c ↔ p.isSome = true)) ∧ (∀ a n,p = some (a,n) → 0 ≤ n ∧ n ≤ d) ∧
    NestP φ 35 (done ++ curR i p) vo O wr ∧ (∀ b,O b → w.heap.size ≤ b ∧ b < wr.heap.size) ∧ Lo w.heap.size w wr)
    (fun _ dv _ => (40 - intOf dv).toNat)
   case atStart => exact ⟨0,out,none,O,rfl,Nat.zero_le _,by simpa [curR] using hol,hout1,fun _ => rfl,fun m y h => (by omega),fun a n h => (by cases h),by simpa [curR] using N,hO,L⟩
   case round =>
    clear N hO L hout1 hol hcell
    obtain ⟨d,done,p,O,rfl,hd,hdl,hrun,hp0,hp1,hp2,N,hO,L⟩ := hrel
    have hd9 : (d : Int) ≤ 40 := by omega
    rcases Nat.lt_or_ge d 40 with hdlt | hdge
    ·have hdlt' : (d : Int) < 40 := by omega
     have hxd := List.getElem?_eq_getElem (show d < row.length by omega)
     rw [List.drop_eq_getElem_cons (show d < row.length by omega)] at hrun
     generalize row[d]'(by omega) = y at hxd hrun
     have g1 : wr.cell? ⟨rb,ro + d,none⟩ = some (.int .i64 y) := by rw [upc L]; exact hcells d y hxd
     by_cases hy : y = c
     ·subst hy
      cases p with
      | none =>
        rw [runsR,if_pos rfl] at hrun
        simp only [curR,List.append_nil,List.length_nil,Nat.add_zero] at N hdl
        obtain ⟨ad,n',cp',w7,hap,L7,O7,N7,hO7⟩ := N.push3 (S := w.heap.size) (eI := 2) (t := 27) (P := Tryz.prog) hO L.size i d 1 Tryz.underlying27 hiR sR zR rfl (by rw [bR]; omega) (by omega) 1 27
        have hzA : (wr.alloc (.cells #[.int .i64 i,.int .i64 d,.int .i64 1] 2)).heap.size = wr.heap.size + 1 := by simp
        have fin : ∀ e : Int,e = (d : Int) + 1 → ∃ (d' : Nat) (done : List (List Int)) (p : Option (Int × Int)) (O : Nat → Prop),Value.int .i64 e = .int .i64 d' ∧ d' ≤ 40 ∧ done.length + (curR i p).length ≤ i * 40 + d' ∧ done ++ runsR y i d' p (row.drop d') = out1 ∧ (d' = 0 → p = none) ∧ (∀ m z,d' = m + 1 → row[m]? = some z → (z = y ↔ p.isSome = true)) ∧ (∀ a n,p = some (a,n) → 0 ≤ n ∧ n ≤ d') ∧
         NestP φ 35 (done ++ curR i p) (.slice ad n' cp') O w7 ∧ (∀ b,O b → w.heap.size ≤ b ∧ b < w7.heap.size) ∧ Lo w.heap.size w w7 :=
         fun e he => ⟨d + 1,done,some (d,1),O7,by rw [he]; rfl,by omega,by simp [curR]; omega,hrun,fun h => by omega,fun m z hm hz => by
          obtain rfl : d = m := by omega
          rw [hxd] at hz; cases hz; simp,fun a n h => by cases h; omega,N7,hO7,L.trans L7⟩
        clear N hrun hO7 N7
        rcases Nat.eq_zero_or_pos d with hd0 | hdp
        ·subst hd0
         clear hp1 hcells upc
         rw [Nat.add_zero] at g1
         go_wp2_with (first | (at_builtin; refine Zb5 _ rfl _ _ _ _ rfl _ _ rfl rfl hap ?_) | fail)
         exact ⟨fin _ (by omega),by simp only [intOf]; omega⟩
        ·obtain ⟨m,rfl⟩ : ∃ m,d = m + 1 := ⟨d - 1,by omega⟩
         have hxm := List.getElem?_eq_getElem (show m < row.length by omega)
         generalize row[m]'(by omega) = z at hxm
         have g2 : wr.cell? ⟨rb,ro + m,none⟩ = some (.int .i64 z) := by rw [upc L]; exact hcells m z hxm
         have hne : ¬ z = y := fun e => by have := (hp1 m z rfl hxm).1 e; simp at this
         have hix : ((m + 1 : Nat) : Int) - 1 = (m : Int) := by omega
         clear hp1 hcells upc
         go_wp2_with (first | (at_builtin; refine Zb5 _ rfl _ _ _ _ rfl _ _ rfl rfl hap ?_) | fail)
         exact ⟨fin _ (by omega),by simp only [intOf]; omega⟩
      | some ac =>
        obtain ⟨a9,n9⟩ := ac
        rw [runsR,if_pos rfl] at hrun
        obtain ⟨q1,q2⟩ := hp2 a9 n9 rfl
        simp only [curR,List.length_singleton] at N hdl
        obtain ⟨m,rfl⟩ : ∃ m,d = m + 1 := ⟨d - 1,by
         have : d ≠ 0 := fun h => by cases hp0 h
         omega⟩
        have hxm := List.getElem?_eq_getElem (show m < row.length by omega)
        generalize row[m]'(by omega) = z at hxm
        obtain rfl : z = y := (hp1 m z rfl hxm).2 rfl
        have g2 : wr.cell? ⟨rb,ro + m,none⟩ = some (.int .i64 z) := by rw [upc L]; exact hcells m z hxm
        have hix : ((m + 1 : Nat) : Int) - 1 = (m : Int) := by omega
        have hlen : (done ++ [[(i : Int),a9,n9]]).length = done.length + 1 := by simp
        have hrow9 : Go.Ab.rowAt (done ++ [[(i : Int),a9,n9]]) done.length = [(i : Int),a9,n9] := by simp [Go.Ab.rowAt]
        obtain ⟨bo,cap9,b0,o0,c0,e9,h1,h2,h3,h4,⟨h5,h6⟩,h7⟩ := N.at (i := done.length) (k := 2) (y := n9) (by omega) (by rw [hrow9]; rfl)
        have N7 := h7 (n9 + 1)
        have hset : (done ++ [[(i : Int),a9,n9]]).set done.length ((Go.Ab.rowAt (done ++ [[(i : Int),a9,n9]]) done.length).set 2 (n9 + 1)) = done ++ [[(i : Int),a9,n9 + 1]] := by rw [hrow9]; simp
        rw [hset] at N7
        rw [hlen] at e9
        rw [hrow9] at h1
        have h1 : wr.cell? ⟨bo,done.length,none⟩ = some (.slice (some ⟨b0,o0,none⟩) 3 c0) := h1
        subst e9
        have hix2 : ((done.length + 1 : Nat) : Int) - 1 = (done.length : Int) := by omega
        have hdl9 : (done.length : Int) ≤ 100000 := by omega
        have hn9 : n9 ≤ 40 := by omega
        have L7 : Lo w.heap.size w (wr.setCell ⟨b0,o0 + 2,none⟩ (.int .i64 (n9 + 1))) := L.trans ((Lo.refl _ _).setCell (hO _ h4).1)
        have fin : ∀ e : Int,e = (m : Int) + 1 + 1 → ∃ (d' : Nat) (done' : List (List Int)) (p : Option (Int × Int)) (O : Nat → Prop),Value.int .i64 e = .int .i64 d' ∧ d' ≤ 40 ∧ done'.length + (curR i p).length ≤ i * 40 + d' ∧ done' ++ runsR z i d' p (row.drop d') = out1 ∧ (d' = 0 → p = none) ∧ (∀ m y,d' = m + 1 → row[m]? = some y → (y = z ↔ p.isSome = true)) ∧ (∀ a n,p = some (a,n) → 0 ≤ n ∧ n ≤ d') ∧
         NestP φ 35 (done' ++ curR i p) (.slice (some ⟨bo,0,none⟩) (done.length + 1) cap9) O (wr.setCell ⟨b0,o0 + 2,none⟩ (.int .i64 (n9 + 1))) ∧ (∀ b,O b → w.heap.size ≤ b ∧ b < (wr.setCell ⟨b0,o0 + 2,none⟩ (.int .i64 (n9 + 1))).heap.size) ∧ Lo w.heap.size w (wr.setCell ⟨b0,o0 + 2,none⟩ (.int .i64 (n9 + 1))) :=
         fun e he => ⟨m + 2,done,some (a9,n9 + 1),O,by rw [he]; rfl,by omega,by simp [curR]; omega,hrun,fun h => by omega,fun m' y hm hz => by
          obtain rfl : m + 1 = m' := by omega
          rw [hxd] at hz; cases hz; simp,fun a n h => by cases h; omega,N7,fun b hb => by rw [Zaf]; exact hO b hb,L7⟩
        clear hcells upc h7 hset N7 N hrun hlen hrow9 hp0 hp1 hp2
        go_wp2_with (fail)
        exact ⟨fin _ (by omega),by simp only [intOf]; omega⟩
     ·have hrun2 : (done ++ curR i p) ++ runsR c i (d + 1) none (row.drop (d + 1)) = out1 := by
       rw [← hrun]
       cases p with
       | none => rw [runsR,if_neg hy]; simp [curR]
       | some ac => obtain ⟨a9,n9⟩ := ac; rw [runsR,if_neg hy]; simp [curR]
      have fin : ∀ e : Int,e = (d : Int) + 1 → ∃ (d' : Nat) (done' : List (List Int)) (p' : Option (Int × Int)) (O : Nat → Prop),Value.int .i64 e = .int .i64 d' ∧ d' ≤ 40 ∧ done'.length + (curR i p').length ≤ i * 40 + d' ∧ done' ++ runsR c i d' p' (row.drop d') = out1 ∧ (d' = 0 → p' = none) ∧ (∀ m z,d' = m + 1 → row[m]? = some z → (z = c ↔ p'.isSome = true)) ∧ (∀ a n,p' = some (a,n) → 0 ≤ n ∧ n ≤ d') ∧
       NestP φ 35 (done' ++ curR i p') u5 O wr ∧ (∀ b,O b → w.heap.size ≤ b ∧ b < wr.heap.size) ∧ Lo w.heap.size w wr :=
       fun e he => ⟨d + 1,done ++ curR i p,none,O,by rw [he]; rfl,by omega,by rw [List.length_append]; show _ + 0 ≤ _; omega,hrun2,fun _ => rfl,fun m z hm hz => by
        obtain rfl : d = m := by omega
        rw [hxd] at hz; cases hz
        exact ⟨fun e => absurd e hy,fun e => by simp at e⟩,fun a n h => (by cases h),by simpa [curR] using N,hO,L⟩
      clear hrun hrun2 N hp0 hp1 hp2 hcells upc
      go_wp2_with (fail)
      exact ⟨fin _ (by omega),by simp only [intOf]; omega⟩
    ·obtain rfl : d = 40 := by omega
     have hge' : ¬ ((40 : Nat) : Int) < 40 := by omega
     rw [List.drop_eq_nil_of_le (by omega)] at hrun
     have hrun2 : done ++ curR i p = out1 := by
      rw [← hrun]
      cases p with
      | none => rw [runsR]
      | some ac => obtain ⟨a9,n9⟩ := ac; rw [runsR]
     rw [hrun2] at N
     clear hcells upc
     have ho1 : out1.length ≤ (i + 1) * 40 := by rw [← hrun2,List.length_append]; omega
     go_wp2_with (fail)
     exact ⟨⟨i + 1,out1,O,rfl,by omega,ho1,hY,N,hO,L⟩,by simp only [intOf]; omega⟩
  ·obtain rfl : i = xs.length := by omega
   have hge' : ¬ ((xs.length : Nat) : Int) < (xs.length : Int) := by omega
   rw [List.drop_length] at hY
   rw [partsL,List.append_nil] at hY
   subst hY
   go_wp2_with (fail)
   go_ret
   exact ⟨_,rfl,L,N.data hO⟩⟩
end
theorem Zty : FOk Tryz.prog phi 786 Zgp := Zy9 (g := 786) Z5q (by kernel_rfl)
theorem Z17 : FOk Tryz.prog phi 4 Zp6 := fn_ok hm (D := Zw1) DOk.nil (by kernel_rfl) _ _ _ _
theorem Zpb : FOk Tryz.prog phi 372 Zd7 := fn_ok hm (D := Zb8) (DOk.cons Z17 (DOk.cons Zdp (DOk.cons Zty (DOk.cons Zqp DOk.nil)))) (by kernel_rfl) _ _ _ _
theorem Zih : FOk Tryz.prog phi 1 Zdc := fn_ok hm (D := Zow) DOk.nil (by kernel_rfl) _ _ _ _
theorem Zt7 : FOk Tryz.prog phi 789 Zgq := fn_ok hm (D := Zdu) (DOk.cons Zih DOk.nil) (by kernel_rfl) _ _ _ _
theorem Zr0 : FOk Tryz.prog phi 11 Zfk := fn_ok hm (D := Zkr) DOk.nil (by kernel_rfl) _ _ _ _
theorem Zrx : FOk Tryz.prog phi 12 Zfn := fn_ok hm (D := Zlq) DOk.nil (by kernel_rfl) _ _ _ _
theorem Zt5 : FOk Tryz.prog phi 13 Zgz := fn_ok hm (D := Zds) (DOk.cons Zr0 (DOk.cons Zrx DOk.nil)) (by kernel_rfl) _ _ _ _
theorem Zth : FOk Tryz.prog phi 1054 Zgw := fn_ok hm (D := Zmy) (DOk.cons Zih DOk.nil) (by kernel_rfl) _ _ _ _
theorem Zvm : FOk Tryz.prog phi 1055 Zig := fn_ok hm (D := Zn0) (DOk.cons Zih DOk.nil) (by kernel_rfl) _ _ _ _
theorem Zvh : FOk Tryz.prog phi 976 Zij := fn_ok hm (D := Zn6) (DOk.cons Zt5 (DOk.cons Zth (DOk.cons Zvm DOk.nil))) (by kernel_rfl) _ _ _ _
theorem Zw6 : FOk Tryz.prog phi 790 Zj5 := fn_ok hm (D := Zju) (DOk.cons Zvh DOk.nil) (by kernel_rfl) _ _ _ _
section
open Go.Ab Go.Proofs
set_option maxHeartbeats 6400000 in
theorem Z6h : Zo0 Tryz.prog 26 := ⟨⟨_,Tryz.func26,by decide +kernel,rfl⟩,by
 intro φ xs c ys hY w K v hr hK
 obtain ⟨iR,hiR,heR⟩ := Option.map_eq_some_iff.1 Zvq
 simp only [Prod.mk.injEq] at heR
 obtain ⟨zR,sR,bR⟩ := heR
 unfold partsF at hY
 split at hY
 rotate_left
 ·cases hY
 rename_i hc
 obtain ⟨hl,hall⟩ := hc
 replace hY := Option.some.inj hY
 obtain ⟨⟨av,cv,rfl⟩,hrow⟩ := Z1i hr
 have hxl : (xs.length : Int) ≤ 1000 := by omega
 go_enter Tryz.func26,Tryz.ntmps26
 go_wp2_with (fail)
 have L0 : Lo w.heap.size w (w.alloc (.cells #[] 35)) := (Lo.refl _ _).alloc (Nat.le_refl _) _
 go_loopw [5,6] (fun vo iv wr => ∃ (i : Nat) (out : List (List Int)) (O : Nat → Prop),iv = .int .i64 i ∧ i ≤ xs.length ∧ out.length ≤ i * 40 ∧ out ++ partsL c i (xs.drop i) = ys ∧ NestP φ 35 out vo O wr ∧ (∀ b,O b → w.heap.size ≤ b ∧ b < wr.heap.size) ∧ Lo w.heap.size w wr)
  (fun _ iv _ => ((xs.length : Int) - intOf iv).toNat)
 case atStart => exact ⟨0,[],fun _ => False,rfl,Nat.zero_le _,Nat.zero_le _,by simpa using hY,.nil _ _ _,fun b hb => hb.elim,L0⟩
 case round =>
  clear L0 hY
  obtain ⟨i,out,O,rfl,hi,hol,hY,N,hO,L⟩ := hrel
  have hi9 : (i : Int) ≤ 1000 := by omega
  rcases Nat.lt_or_ge i xs.length with hlt | hge
  ·have hlt' : (i : Int) < xs.length := by omega
   have hxi := List.getElem?_eq_getElem hlt
   rw [List.drop_eq_getElem_cons hlt,partsL,← List.append_assoc] at hY
   have hrl : (xs[i]).length = 40 := by
    have := List.all_eq_true.1 hall xs[i] (List.getElem_mem hlt)
    simpa using this
   generalize xs[i] = row at hxi hY hrl
   obtain ⟨b,o,cap,a,n,c2,e1,hc1,hKb,hrr⟩ := hrow i row hxi
   injection e1 with e1 _ e2
   subst e1 e2
   obtain ⟨rb,ro,rc,e3,hKr,hcells⟩ := Z1c hrr (by intro h; rw [h] at hrl; cases hrl)
   rw [e3,hrl] at hc1
   clear hrr e3 hrow
   generalize hout1 : out ++ runsR c i 0 none row = out1 at hY
   have upc : ∀ {u : World},Lo w.heap.size w u → ∀ o',u.cell? ⟨rb,o',none⟩ = w.cell? ⟨rb,o',none⟩ := fun hu o' => by simp only [World.cell?,hu.block rb (hK rb hKr)]
   have hcell : wr.cell? ⟨b,o + i,none⟩ = some (.slice (some ⟨rb,ro,none⟩) 40 rc) := by
    rw [← hc1]; simp only [World.cell?,L.block b (hK b hKb)]
   go_wp2_with (fail)
   go_loopw [5,7] (fun vo dv wr => ∃ (d : Nat) (done : List (List Int)) (p : Option (Int × Int)) (O : Nat → Prop),dv = .int .i64 d ∧ d ≤ 40 ∧ done.length + (curR i p).length ≤ i * 40 + d ∧ done ++ runsR c i d p (row.drop d) = out1 ∧ (d = 0 → p = none) ∧ (∀ m y,d = m + 1 → row[m]? = some y → (y = c ↔ p.isSome = true)) ∧ (∀ a n,p = some (a,n) → 0 ≤ n ∧ n ≤ d) ∧
    NestP φ 35 (done ++ curR i p) vo O wr ∧ (∀ b,O b → w.heap.size ≤ b ∧ b < wr.heap.size) ∧ Lo w.heap.size w wr)
    (fun _ dv _ => (40 - intOf dv).toNat)
   case atStart => exact ⟨0,out,none,O,rfl,Nat.zero_le _,by simpa [curR] using hol,hout1,fun _ => rfl,fun m y h => (by omega),fun a n h => (by cases h),by simpa [curR] using N,hO,L⟩
   case round =>
    clear N hO L hout1 hol hcell
    obtain ⟨d,done,p,O,rfl,hd,hdl,hrun,hp0,hp1,hp2,N,hO,L⟩ := hrel
    have hd9 : (d : Int) ≤ 40 := by omega
    have hcell : wr.cell? ⟨b,o + i,none⟩ = some (.slice (some ⟨rb,ro,none⟩) 40 rc) := by
     rw [← hc1]; simp only [World.cell?,L.block b (hK b hKb)]
    rcases Nat.lt_or_ge d 40 with hdlt | hdge
    ·have hdlt' : (d : Int) < 40 := by omega
     have hxd := List.getElem?_eq_getElem (show d < row.length by omega)
     rw [List.drop_eq_getElem_cons (show d < row.length by omega)] at hrun
     generalize row[d]'(by omega) = y at hxd hrun
     have g1 : wr.cell? ⟨rb,ro + d,none⟩ = some (.int .i64 y) := by rw [upc L]; exact hcells d y hxd
     by_cases hy : y = c
     ·subst hy
      cases p with
      | none =>
        rw [runsR,if_pos rfl] at hrun
        simp only [curR,List.append_nil,List.length_nil,Nat.add_zero] at N hdl
        obtain ⟨ad0,cp0,rfl⟩ := N.slice
        have hdl8 : (done.length : Int) ≤ 100000 := by omega
        obtain ⟨ad,n',cp',w7,hap,L7,O7,N7,hO7⟩ := N.push3 (S := w.heap.size) (eI := 2) (t := 27) (P := Tryz.prog) hO L.size i d 1 Tryz.underlying27 hiR sR zR rfl (by rw [bR]; omega) (by omega) 1 27
        have hzA : (wr.alloc (.cells #[.int .i64 i,.int .i64 d,.int .i64 1] 2)).heap.size = wr.heap.size + 1 := by simp
        have fin : ∀ e : Int,e = (d : Int) + 1 → ∃ (d' : Nat) (done : List (List Int)) (p : Option (Int × Int)) (O : Nat → Prop),Value.int .i64 e = .int .i64 d' ∧ d' ≤ 40 ∧ done.length + (curR i p).length ≤ i * 40 + d' ∧ done ++ runsR y i d' p (row.drop d') = out1 ∧ (d' = 0 → p = none) ∧ (∀ m z,d' = m + 1 → row[m]? = some z → (z = y ↔ p.isSome = true)) ∧ (∀ a n,p = some (a,n) → 0 ≤ n ∧ n ≤ d') ∧
         NestP φ 35 (done ++ curR i p) (.slice ad n' cp') O w7 ∧ (∀ b,O b → w.heap.size ≤ b ∧ b < w7.heap.size) ∧ Lo w.heap.size w w7 :=
         fun e he => ⟨d + 1,done,some (d,1),O7,by rw [he]; rfl,by omega,by simp [curR]; omega,hrun,fun h => by omega,fun m z hm hz => by
          obtain rfl : d = m := by omega
          rw [hxd] at hz; cases hz; simp,fun a n h => by cases h; omega,N7,hO7,L.trans L7⟩
        clear N hrun hO7 N7
        rcases Nat.eq_zero_or_pos d with hd0 | hdp
        ·subst hd0
         clear hp1 hcells upc
         rw [Nat.add_zero] at g1
         go_wp2_with (first | (at_builtin; refine Zb5 _ rfl _ _ _ _ rfl _ _ rfl rfl hap ?_) | fail)
         exact ⟨fin _ (by omega),by simp only [intOf]; omega⟩
        ·obtain ⟨m,rfl⟩ : ∃ m,d = m + 1 := ⟨d - 1,by omega⟩
         have hxm := List.getElem?_eq_getElem (show m < row.length by omega)
         generalize row[m]'(by omega) = z at hxm
         have g2 : wr.cell? ⟨rb,ro + m,none⟩ = some (.int .i64 z) := by rw [upc L]; exact hcells m z hxm
         have hne : ¬ z = y := fun e => by have := (hp1 m z rfl hxm).1 e; simp at this
         have hix : ((m + 1 : Nat) : Int) - 1 = (m : Int) := by omega
         clear hp1 hcells upc
         go_wp2_with (first | (at_builtin; refine Zb5 _ rfl _ _ _ _ rfl _ _ rfl rfl hap ?_) | fail)
         exact ⟨fin _ (by omega),by simp only [intOf]; omega⟩
      | some ac =>
        obtain ⟨a9,n9⟩ := ac
        rw [runsR,if_pos rfl] at hrun
        obtain ⟨q1,q2⟩ := hp2 a9 n9 rfl
        simp only [curR,List.length_singleton] at N hdl
        obtain ⟨m,rfl⟩ : ∃ m,d = m + 1 := ⟨d - 1,by
         have : d ≠ 0 := fun h => by cases hp0 h
         omega⟩
        have hxm := List.getElem?_eq_getElem (show m < row.length by omega)
        generalize row[m]'(by omega) = z at hxm
        obtain rfl : z = y := (hp1 m z rfl hxm).2 rfl
        have g2 : wr.cell? ⟨rb,ro + m,none⟩ = some (.int .i64 z) := by rw [upc L]; exact hcells m z hxm
        have hix : ((m + 1 : Nat) : Int) - 1 = (m : Int) := by omega
        have hlen : (done ++ [[(i : Int),a9,n9]]).length = done.length + 1 := by simp
        have hrow9 : Go.Ab.rowAt (done ++ [[(i : Int),a9,n9]]) done.length = [(i : Int),a9,n9] := by simp [Go.Ab.rowAt]
        obtain ⟨bo,cap9,b0,o0,c0,e9,h1,h2,h3,h4,⟨h5,h6⟩,h7⟩ := N.at (i := done.length) (k := 2) (y := n9) (by omega) (by rw [hrow9]; rfl)
        have N7 := h7 (n9 + 1)
        have hset : (done ++ [[(i : Int),a9,n9]]).set done.length ((Go.Ab.rowAt (done ++ [[(i : Int),a9,n9]]) done.length).set 2 (n9 + 1)) = done ++ [[(i : Int),a9,n9 + 1]] := by rw [hrow9]; simp
        rw [hset] at N7
        rw [hlen] at e9
        rw [hrow9] at h1
        have h1 : wr.cell? ⟨bo,done.length,none⟩ = some (.slice (some ⟨b0,o0,none⟩) 3 c0) := h1
        subst e9
        have hix2 : ((done.length + 1 : Nat) : Int) - 1 = (done.length : Int) := by omega
        have hdl9 : (done.length : Int) ≤ 100000 := by omega
        have hn9 : n9 ≤ 40 := by omega
        have L7 : Lo w.heap.size w (wr.setCell ⟨b0,o0 + 2,none⟩ (.int .i64 (n9 + 1))) := L.trans ((Lo.refl _ _).setCell (hO _ h4).1)
        have fin : ∀ e : Int,e = (m : Int) + 1 + 1 → ∃ (d' : Nat) (done' : List (List Int)) (p : Option (Int × Int)) (O : Nat → Prop),Value.int .i64 e = .int .i64 d' ∧ d' ≤ 40 ∧ done'.length + (curR i p).length ≤ i * 40 + d' ∧ done' ++ runsR z i d' p (row.drop d') = out1 ∧ (d' = 0 → p = none) ∧ (∀ m y,d' = m + 1 → row[m]? = some y → (y = z ↔ p.isSome = true)) ∧ (∀ a n,p = some (a,n) → 0 ≤ n ∧ n ≤ d') ∧
         NestP φ 35 (done' ++ curR i p) (.slice (some ⟨bo,0,none⟩) (done.length + 1) cap9) O (wr.setCell ⟨b0,o0 + 2,none⟩ (.int .i64 (n9 + 1))) ∧ (∀ b,O b → w.heap.size ≤ b ∧ b < (wr.setCell ⟨b0,o0 + 2,none⟩ (.int .i64 (n9 + 1))).heap.size) ∧ Lo w.heap.size w (wr.setCell ⟨b0,o0 + 2,none⟩ (.int .i64 (n9 + 1))) :=
         fun e he => ⟨m + 2,done,some (a9,n9 + 1),O,by rw [he]; rfl,by omega,by simp [curR]; omega,hrun,fun h => by omega,fun m' y hm hz => by
          obtain rfl : m + 1 = m' := by omega
          rw [hxd] at hz; cases hz; simp,fun a n h => by cases h; omega,N7,fun b hb => by rw [Zaf]; exact hO b hb,L7⟩
        clear hcells upc h7 hset N7 N hrun hlen hrow9 hp0 hp1 hp2
        go_wp2_with (fail)
        exact ⟨fin _ (by omega),by simp only [intOf]; omega⟩
     ·have hrun2 : (done ++ curR i p) ++ runsR c i (d + 1) none (row.drop (d + 1)) = out1 := by
       rw [← hrun]
       cases p with
       | none => rw [runsR,if_neg hy]; simp [curR]
       | some ac => obtain ⟨a9,n9⟩ := ac; rw [runsR,if_neg hy]; simp [curR]
      have fin : ∀ e : Int,e = (d : Int) + 1 → ∃ (d' : Nat) (done' : List (List Int)) (p' : Option (Int × Int)) (O : Nat → Prop),Value.int .i64 e = .int .i64 d' ∧ d' ≤ 40 ∧ done'.length + (curR i p').length ≤ i * 40 + d' ∧ done' ++ runsR c i d' p' (row.drop d') = out1 ∧ (d' = 0 → p' = none) ∧ (∀ m z,d' = m + 1 → row[m]? = some z → (z = c ↔ p'.isSome = true)) ∧ (∀ a n,p' = some (a,n) → 0 ≤ n ∧ n ≤ d') ∧
       NestP φ 35 (done' ++ curR i p') u5 O wr ∧ (∀ b,O b → w.heap.size ≤ b ∧ b < wr.heap.size) ∧ Lo w.heap.size w wr :=
       fun e he => ⟨d + 1,done ++ curR i p,none,O,by rw [he]; rfl,by omega,by rw [List.length_append]; show _ + 0 ≤ _; omega,hrun2,fun _ => rfl,fun m z hm hz => by
        obtain rfl : d = m := by omega
        rw [hxd] at hz; cases hz
        exact ⟨fun e => absurd e hy,fun e => by simp at e⟩,fun a n h => (by cases h),by simpa [curR] using N,hO,L⟩
      clear hrun hrun2 N hp0 hp1 hp2 hcells upc
      go_wp2_with (fail)
      exact ⟨fin _ (by omega),by simp only [intOf]; omega⟩
    ·obtain rfl : d = 40 := by omega
     have hge' : ¬ ((40 : Nat) : Int) < 40 := by omega
     rw [List.drop_eq_nil_of_le (by omega)] at hrun
     have hrun2 : done ++ curR i p = out1 := by
      rw [← hrun]
      cases p with
      | none => rw [runsR]
      | some ac => obtain ⟨a9,n9⟩ := ac; rw [runsR]
     rw [hrun2] at N
     clear hcells upc
     have ho1 : out1.length ≤ (i + 1) * 40 := by rw [← hrun2,List.length_append]; omega
     go_wp2_with (fail)
     exact ⟨⟨i + 1,out1,O,rfl,by omega,ho1,hY,N,hO,L⟩,by simp only [intOf]; omega⟩
  ·obtain rfl : i = xs.length := by omega
   have hge' : ¬ ((xs.length : Nat) : Int) < (xs.length : Int) := by omega
   rw [List.drop_length] at hY
   rw [partsL,List.append_nil] at hY
   subst hY
   go_wp2_with (fail)
   go_ret
   exact ⟨_,rfl,L,N.data hO⟩⟩
end
theorem Zsf : FOk Tryz.prog phi 788 Zfy := Zy9 (g := 788) Z6h (by kernel_rfl)
theorem Zoo : FOk Tryz.prog phi 373 Zeb := fn_ok hm (D := Zb9) (DOk.cons Zsf (DOk.cons Zt7 (DOk.cons Zw6 DOk.nil))) (by kernel_rfl) _ _ _ _
theorem Zjf : FOk Tryz.prog phi 371 Zbm := fn_ok hm (D := Zdj) (DOk.cons Zlb (DOk.cons Ze3 (DOk.cons Zk9 DOk.nil))) (by kernel_rfl) _ _ _ _
theorem Zmb : FOk Tryz.prog phi 370 Zcs := fn_ok hm (D := Zcy) (DOk.cons Zh6 DOk.nil) (by kernel_rfl) _ _ _ _
theorem Zqw : FOk Tryz.prog phi 368 Zes := fn_ok hm (D := Zeq) (DOk.cons Zdp DOk.nil) (by kernel_rfl) _ _ _ _
theorem Znc : FOk Tryz.prog phi 864 Zc3 := Zzh Tryz.laysM173 ⟨3,by kernel_rfl⟩ (by kernel_rfl)
theorem Ztc : FOk Tryz.prog phi 524 Zgo := fn_ok hm (D := Zmp) (DOk.cons Znc DOk.nil) (by kernel_rfl) _ _ _ _
theorem Zsu : FOk Tryz.prog phi 630 Zgs := Z5b Tryz.lays156 Tryz.Builder_Extra_156 (by kernel_rfl)
theorem Zrw : FOk Tryz.prog phi 460 Zfm := fn_ok hm (D := Zfl) (DOk.cons Zlw (DOk.cons Zcb (DOk.cons Ztc (DOk.cons Zsu DOk.nil)))) (by kernel_rfl) _ _ _ _
theorem Zxk : FOk Tryz.prog phi 459 Zj6 := fn_ok hm (D := Zpp) (DOk.cons Zrw DOk.nil) (by kernel_rfl) _ _ _ _
theorem Zsb : FOk Tryz.prog phi 366 Zfc := fn_ok hm (D := Zlu) (DOk.cons Zxk (DOk.cons Zdk DOk.nil)) (by kernel_rfl) _ _ _ _
theorem Zvb : FOk Tryz.prog phi 523 Zis := cut_ok Tryz.laysM145 (of_decide_eq_true (by kernel_rfl)) (by kernel_rfl)
theorem Zre : FOk Tryz.prog phi 683 Zf3 := Z4x Tryz.laysM146 (of_decide_eq_true (by kernel_rfl)) (by kernel_rfl)
section
open Go.Lib
theorem Z6j (s : ByteArray) (w : World) (hl : 18 < (Lib.trimPrefix s.data.toList [45]).length) :
 Calls Tryz.prog 53 #[.string s] w fun e w' => e = .returned (.tuple #[.int .i64 0,.bool false]) ∧ Below w.heap.size w w' := by
 go_enter Tryz.func53,Tryz.ntmps53
 go_wp2_with (go_at_call 61; refine (Tryz.strings_TrimPrefix _ _ _).mono ?_; rintro e w' ⟨rfl,rfl⟩)
 all_goals first
  | (exfalso; omega)
  | (go_ret2; exact ⟨rfl,Below.refl _ _⟩)
theorem rd_bad (s : ByteArray) (w : World) (hl : ¬ 18 < (Lib.trimPrefix s.data.toList [45]).length) (m : Int) (u : TypeId) (hP : Calls Tryz.prog 62 #[.string s,.int .i64 10,.int .i64 64] w fun e w' => ∃ x,e = .returned (.tuple #[.int .i64 m,.iface u x]) ∧ Below w.heap.size w w') :
 Calls Tryz.prog 53 #[.string s] w fun e w' => e = .returned (.tuple #[.int .i64 0,.bool false]) ∧ Below w.heap.size w w' := by
 go_enter Tryz.func53,Tryz.ntmps53
 go_wp2_with (first | (go_at_call 61; refine (Tryz.strings_TrimPrefix _ _ _).mono ?_; rintro e w' ⟨rfl,rfl⟩) | (go_at_call 62; refine hP.mono ?_; rintro e w1 ⟨x,rfl,hw1⟩))
 all_goals first
  | (exfalso; omega)
  | (go_ret2; exact ⟨rfl,hw1⟩)
theorem rd_ok (s : ByteArray) (w : World) (hl : ¬ 18 < (Lib.trimPrefix s.data.toList [45]).length) (v : Int) (hs : Lib.itoa v = s.data.toList) (hP : Calls Tryz.prog 62 #[.string s,.int .i64 10,.int .i64 64] w fun e w' => e = .returned (.tuple #[.int .i64 v,.nilIface]) ∧ Below w.heap.size w w')
 (hF : ∀ w',Below w.heap.size w w' → Calls Tryz.prog 63 #[.int .i64 v,.int .i64 10] w' fun e w'' => e = .returned (.string ⟨(Lib.itoa v).toArray⟩) ∧ Below w'.heap.size w' w'') :
 Calls Tryz.prog 53 #[.string s] w fun e w' => e = .returned (.tuple #[.int .i64 v,.bool true]) ∧ Below w.heap.size w w' := by
 have HS := Lib.hid hs; clear hs
 go_enter Tryz.func53,Tryz.ntmps53
 go_wp2_with (first | (go_at_call 61; refine (Tryz.strings_TrimPrefix _ _ _).mono ?_; rintro e w' ⟨rfl,rfl⟩) | (go_at_call 62; refine hP.mono ?_; rintro e w1 ⟨rfl,hw1⟩) | (go_at_call 63; refine (hF _ hw1).mono ?_; rintro e w2 ⟨rfl,hw2⟩) | go_in)
 all_goals first
  | (exfalso; omega)
  | skip
 ·rename_i h
  exfalso
  rw [HS.out] at h
  simp [Lib.toList_data] at h
 ·go_ret2; exact ⟨rfl,hw1.trans (hw2.mono hw1.size)⟩
theorem rd_no (s : ByteArray) (w : World) (hl : ¬ 18 < (Lib.trimPrefix s.data.toList [45]).length) (v : Int) (hs : Lib.itoa v ≠ s.data.toList) (hP : Calls Tryz.prog 62 #[.string s,.int .i64 10,.int .i64 64] w fun e w' => e = .returned (.tuple #[.int .i64 v,.nilIface]) ∧ Below w.heap.size w w')
 (hF : ∀ w',Below w.heap.size w w' → Calls Tryz.prog 63 #[.int .i64 v,.int .i64 10] w' fun e w'' => e = .returned (.string ⟨(Lib.itoa v).toArray⟩) ∧ Below w'.heap.size w' w'') :
 Calls Tryz.prog 53 #[.string s] w fun e w' => e = .returned (.tuple #[.int .i64 0,.bool false]) ∧ Below w.heap.size w w' := by
 have HS := Lib.hid hs; clear hs
 go_enter Tryz.func53,Tryz.ntmps53
 go_wp2_with (first | (go_at_call 61; refine (Tryz.strings_TrimPrefix _ _ _).mono ?_; rintro e w' ⟨rfl,rfl⟩) | (go_at_call 62; refine hP.mono ?_; rintro e w1 ⟨rfl,hw1⟩) | (go_at_call 63; refine (hF _ hw1).mono ?_; rintro e w2 ⟨rfl,hw2⟩) | go_in)
 all_goals first
  | (exfalso; omega)
  | skip
 ·go_ret2; exact ⟨rfl,hw1.trans (hw2.mono hw1.size)⟩
 ·rename_i h
  exfalso
  apply HS.out
  simpa [Lib.toList_data] using h
end
theorem Z6k : RdWalk Tryz.prog 53 62 63 := ⟨⟨_,Tryz.func53,by decide +kernel,rfl⟩,Z6j,rd_bad,rd_ok,rd_no⟩
theorem Zok : FOk Tryz.prog phi 522 Zdd := Zuu Tryz.laysC174 Tryz.laysM173 ⟨3,by kernel_rfl⟩ (by kernel_rfl) (by kernel_rfl) Z6k (by kernel_rfl)
theorem Zr8 : FOk Tryz.prog phi 457 Zf0 := fn_ok hm (D := Zfj) (DOk.cons Zcb (DOk.cons Zok (DOk.cons Zre DOk.nil))) (by kernel_rfl) _ _ _ _
theorem Zqu : FOk Tryz.prog phi 747 Zev := fn_ok hm (D := Zjz) (DOk.cons Zr8 (DOk.cons Zvb DOk.nil)) (by kernel_rfl) _ _ _ _
theorem Zse : FOk Tryz.prog phi 367 Zfr := fn_ok hm (D := Zks) (DOk.cons Zqu (DOk.cons Zdk DOk.nil)) (by kernel_rfl) _ _ _ _
theorem Ztv : FOk Tryz.prog phi 1304 Zci := fn_ok hm (D := Zbk) (DOk.cons Zuc (DOk.cons Zsb (DOk.cons Zse (DOk.cons Zqw (DOk.cons Zh6 (DOk.cons Zmb (DOk.cons Zjf (DOk.cons Zpb (DOk.cons Zoo (DOk.cons Zlz DOk.nil)))))))))) (by kernel_rfl) _ _ _ _
theorem law : ∀ x,wfU Zci.ps x → ∃ y,Zci.f x = some y ∧ resA Zci y = ([A.bool true],[]) := fun x hx => ⟨true,(laws_FnWorks_true x.1 x.2.1 hx.1 hx.2.1),rfl⟩
theorem own : ownKnob Tryz.prog.godebug = none := by kernel_rfl
theorem laid : laidOutB Tryz.prog = true := by kernel_rfl
theorem reads : ∀ t ∈ Tryz.f3.params.toList,Tryz.prog.readableRec t = true ∧ t < Tryz.prog.types.size := by
 have h : (Tryz.f3.params.toList.all fun t => Tryz.prog.readableRec t && decide (t < Tryz.prog.types.size)) = true := by kernel_rfl
 intro t ht
 have := List.all_eq_true.1 h t ht
 simpa only [Bool.and_eq_true,decide_eq_true_eq] using this
theorem Z52 (H : Type) : ∀ (ds : List (DataW H)),ds.length = Tryz.f3.params.toList.length → Rows.fnWorksSpec.fn H ds = { results := [.lit (.bool true)],args := ds } := by
 intro ds hd
 have hd : ds.length = 2 := hd
 match ds,hd with
 | [d0,d1],_ => rfl
theorem tab (W : World) (hL : laidMetH Tryz.prog Rows.fnWorksRow.laid W) : ∀ i,Tryz.prog.globalNamed Zbw = some i → Lib.TabIs Tryz.prog W Zbw .u64 Lib.pow10Tab := by
 intro i hi
 have hp : (Rows.fnWorksRow.laid.all fun x => x.2.handleName?.isNone) = true := by kernel_rfl
 rw [MakeChecks.laidMetH_plain _ _ _ hp] at hL
 have h1 : laidMet Tryz.prog (("internal/strconv.uint64pow10",Rows.laid_internal_strconv_uint64pow10) :: [("unicode/utf8.acceptRanges",Rows.laid_unicode_utf8_acceptRanges),("strconv.ErrRange",Rows.laid_strconv_ErrRange),("strconv.ErrSyntax",Rows.laid_strconv_ErrSyntax),("unicode/utf8.first",Rows.laid_unicode_utf8_first)]) W := (laidMet.tail (laidMet.tail hL))
 have e : (Rows.laid_internal_strconv_uint64pow10 : DataW Unit) = Lib.tabData .u64 Lib.pow10Tab := by kernel_rfl
 rw [e] at h1
 exact Lib.tabIs_of_head (t := 139) (e := 64) (n := 20) hi (by obtain rfl := Option.some.inj ((show Tryz.prog.globalNamed Zbw = some 3 by kernel_rfl).symm.trans hi); kernel_rfl) (by kernel_rfl) (by kernel_rfl) (by kernel_rfl) (by kernel_rfl) h1
theorem errs (W : World) (hL : laidMetH Tryz.prog Rows.fnWorksRow.laid W) : ∀ n,Zni.contains n = true → ∀ i,Tryz.prog.globalNamed n = some i → ∃ u v,W.var? Tryz.prog n = some #[.iface u v] := by
 intro n hn i hi
 have hn : n = "strconv.ErrSyntax" ∨ n = "strconv.ErrRange" := by simpa [Zni] using hn
 have hp : (Rows.fnWorksRow.laid.all fun x => x.2.handleName?.isNone) = true := by kernel_rfl
 rw [MakeChecks.laidMetH_plain _ _ _ hp] at hL
 rcases hn with rfl | rfl
 ·have h1 : laidMet Tryz.prog (("strconv.ErrSyntax",Rows.laid_strconv_ErrSyntax) :: [("unicode/utf8.first",Rows.laid_unicode_utf8_first)]) W := (laidMet.tail (laidMet.tail (laidMet.tail (laidMet.tail (laidMet.tail hL)))))
  exact Zsk (ti := 95) h1 ⟨_,_,rfl⟩ hi (by obtain rfl := Option.some.inj ((show Tryz.prog.globalNamed "strconv.ErrSyntax" = some 1 by kernel_rfl).symm.trans hi); kernel_rfl) Tryz.underlying95
 ·have h1 : laidMet Tryz.prog (("strconv.ErrRange",Rows.laid_strconv_ErrRange) :: [("strconv.ErrSyntax",Rows.laid_strconv_ErrSyntax),("unicode/utf8.first",Rows.laid_unicode_utf8_first)]) W := (laidMet.tail (laidMet.tail (laidMet.tail (laidMet.tail hL))))
  exact Zsk (ti := 95) h1 ⟨_,_,rfl⟩ hi (by obtain rfl := Option.some.inj ((show Tryz.prog.globalNamed "strconv.ErrRange" = some 2 by kernel_rfl).symm.trans hi); kernel_rfl) Tryz.underlying95
theorem Zr5 (H : Type) (enc : TypeId × Value → H) (W : World) (base : Nat) (args : Array Value) (ds gs : List (DataW H)) (before : List MemPlace)
 (hval : ∀ (j : Nat) t v,Tryz.f3.params[j]? = some t → args[j]? = some v → Value.okWide Tryz.prog W .any base t v)
 (hW : DataW.Whole enc Tryz.prog Tryz.f3.params.toList Rows.fnWorksSpec.vars false W args.toList ds gs before) (hL : laidMetH Tryz.prog Rows.fnWorksRow.laid W) (hsh : W.ShapedOpen Tryz.prog) :
 Calls Tryz.prog 3 args W fun e W' => ∃ v,e = .returned v ∧ Rows.fnWorksSpec.post enc Tryz.prog Tryz.f3 false true false false W args v W' :=
 Zxz (φ := phi) (g := 1304) (n := 20) Ztv rfl rfl (tb := 4) Tryz.underlying4 (by kernel_rfl) rfl law laid reads Z52 W base args ds gs before hval hW (Glob.start hsh (tab W hL) (errs W hL))
theorem lifted (os : Os) (started : os.Started) (H : Type) (enc : TypeId × Value → H) :
 ReturnsInHanded {} Tryz.checked os 3 .any (fun w args => (Rows.fnWorksSpec.pre enc Tryz.prog Tryz.f3 Rows.fnWorksRow.domain false w args ∧ laidMetH Tryz.prog Rows.fnWorksRow.laid w) ∧ sizedMet enc Tryz.prog Tryz.f3 (OpenSpec.ofChange Rows.fnWorksSpec) false w args) (Rows.fnWorksSpec.post enc Tryz.prog Tryz.f3 false true false false) := by
 refine Znw (C := Tryz.checked) (laid := Rows.fnWorksRow.laid) own started (by kernel_rfl) Tryz.func3
  (ChangeSpec.witness_shaped (enc := enc) (C := Tryz.checked) (os := os) (X := fun w _ => laidMetH Tryz.prog Rows.fnWorksRow.laid w) false (World.laidAll Tryz.prog os Rows.fnWorksRow.laid) #[.slice none 0 0,.slice none 0 0] 12 (World.laidAll_os _ _ _)
    (World.shaped_of_ZipB (by kernel_rfl) (by kernel_rfl)) (by kernel_rfl) (by kernel_rfl) (by kernel_rfl)
    (by rw [MakeChecks.laidMetH_plain _ _ _ (by kernel_rfl)]; exact laidMet_laidAll _ (by kernel_rfl) (by kernel_rfl))) ?_
 intro W base args ds gs before hval hW hL hsh
 exact Zr5 H enc W base args ds gs before hval hW hL hsh
theorem over : Rows.fnWorksRow.holds Tryz.pinned (OpenSpec.ofChange Rows.fnWorksSpec) :=
 OpenClaim.holds_of_wide 3 Tryz.f3 rfl rfl rfl rfl rfl rfl rfl ⟨rfl,rfl,rfl,rfl,rfl⟩ rfl rfl rfl rfl rfl (by kernel_rfl) Tryz.func3 (by kernel_rfl)
  (of_decide_eq_true (by kernel_rfl)) (by unfold Func.isWrapper; first | (rw [if_pos (by decide +kernel)]; kernel_rfl) | (rw [if_neg (by decide +kernel)]; exact ⟨rfl,rfl⟩))
  (fun os started H enc _ => lifted os started H enc)
theorem card : Rows.FnWorksCardSaid :=
 Claim7.holds_tied_plain_at .later [] [.data,.data,.data,.data,.sentinel,.sentinel,.pinned] true (true,"19cd46f5d250b03c0b59557196df2758f77c1ba20d0c5e16179450ad54c09552") true over (fun _ h => by cases h) (by kernel_rfl) (fun _ h => by cases h) fnWorks_row_tie rfl ⟨rfl,rfl⟩ (by kernel_rfl) rfl
  (fun f fn hf hfn => by
    obtain rfl : f = 3 := Option.some.inj ((show Tryz.prog.funcNamed "loop.example/g01061/laws.FnWorks" = some 3 by kernel_rfl).symm.trans hf) |>.symm
    obtain rfl : fn = Tryz.f3 := (Option.some.inj (Tryz.func3.symm.trans hfn)).symm
    exact ⟨by kernel_rfl,fun j t ht => by
     have hm : t ∈ Tryz.f3.params.toList := by simpa using Array.mem_of_getElem? ht
     have hall : (Tryz.f3.params.toList.all fun u => !Tryz.prog.wantsStandIn u) = true := by kernel_rfl
     exact (show Tryz.prog.wantsStandIn t = false by simpa using List.all_eq_true.1 hall t hm)⟩)
  (by kernel_rfl)
theorem proved : Rows.FnWorksCardSaid := card
end Go.Proofs.YtkgfikfdiobnoaaGreatDoor.fnWorks
