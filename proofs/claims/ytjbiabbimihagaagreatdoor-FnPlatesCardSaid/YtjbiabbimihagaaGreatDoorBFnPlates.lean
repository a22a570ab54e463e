/- Lemmas on functions of the program. Conditions: told in each. -/
import Derived.Test.YtjbiabbimihagaaGreatDoorPFnPlates
set_option linter.unusedVariables false
set_option linter.unusedSimpArgs false
namespace Go.Ab.P
open Go.Ab
theorem wsucc {i : Nat} (h : i < 4611686018427387904) : IntKind.i64.wrap ((i : Int) + 1) = ((i + 1 : Nat) : Int) := by
 rw [w64 (by omega) (by omega)]; omega
theorem getElem?_lt {α : Type} {l : List α} {i : Nat} (h : i < l.length) : l[i]? = some l[i] := List.getElem?_eq_getElem h
def rdivP (a b : Int) : Int := if a < 0 then -((b - 2 * a) / (2 * b)) else (2 * a + b) / (2 * b)
theorem rdivP_eq {a b : Int} (ha : 0 ≤ a) (hb : 0 < b) : rdivP a b = a / b + if b - a % b ≤ a % b then 1 else 0 := by
 have h1 := Int.mul_ediv_add_emod a b
 have h2 := Int.emod_nonneg a (show b ≠ 0 by omega)
 have h3 := Int.emod_lt_of_pos a hb
 unfold rdivP
 rw [if_neg (by omega)]
 generalize a / b = q at h1 ⊢
 generalize a % b = r at h1 h2 h3 ⊢
 have key : ∀ t s : Int,0 ≤ s → s < 2 * b → 2 * a + b = s + 2 * b * t → (2 * a + b) / (2 * b) = t := fun t s hs0 hs1 he => by
  rw [he,Int.add_mul_ediv_left s t (show 2 * b ≠ 0 by omega),Int.ediv_eq_zero_of_lt hs0 hs1]; omega
 have e : 2 * b * q = 2 * (b * q) := Int.mul_assoc 2 b q
 split
 ·refine key (q + 1) (2 * r - b) (by omega) (by omega) ?_
  rw [Int.mul_add,e]; omega
 ·rw [Int.add_zero]
  refine key q (2 * r + b) (by omega) (by omega) ?_
  rw [e]; omega
theorem rdivP_neg {a b : Int} (ha : 0 < a) (hb : 0 < b) : rdivP (-a) b = -rdivP a b := by
 unfold rdivP
 rw [if_pos (by omega),if_neg (by omega)]
 congr 2; omega
theorem tdiv_nonneg_eq {a b : Int} (ha : 0 ≤ a) : a.tdiv b = a / b := Int.tdiv_eq_ediv_of_nonneg ha
theorem tmod_nonneg_eq {a b : Int} (ha : 0 ≤ a) : a.tmod b = a % b := Int.tmod_eq_emod_of_nonneg ha
def inR (n lo hi : Int) : Bool := decide (lo ≤ n) && decide (n ≤ hi)
theorem inR_iff' {n lo hi : Int} : inR n lo hi = true ↔ lo ≤ n ∧ n ≤ hi := by simp [inR]
theorem impl_within_ok (n lo hi : Int) : impl_within n lo hi = some (inR n lo hi) := by
 rw [impl_within_eq,inR]; by_cases h : lo ≤ n <;> simp [h]
theorem spec_l00In_ok (n lo hi : Int) : spec_l00In n lo hi = some (inR n lo hi) := by
 rw [spec_l00In_eq,inR]; by_cases h : lo ≤ n <;> simp [h]
theorem spec_l00Max_ok (a b : Int) : spec_l00Max a b = some (if b > a then b else a) := by
 rw [spec_l00Max_eq]; simp only [decide_eq_true_eq]; repeat' split
 all_goals first | rfl | (congr 1; omega)
theorem impl_divRound_ok (a b : Int) (ha : -2000000000000000000 ≤ a ∧ a ≤ 2000000000000000000) (hb : 0 < b ∧ b ≤ 2000000000000000000) : impl_divRound a b = some (rdivP a b) := by
 rw [impl_divRound_eq]
 have e1 : IntKind.i64.wrap (0 - b) = -b := by rw [w64 (by omega) (by omega)]; omega
 have e2 : IntKind.i64.wrap (0 - a) = -a := by rw [w64 (by omega) (by omega)]; omega
 have e3 : (if -b > b then -b else b) = b := by rw [if_neg (by omega)]
 have hb0 : ¬ b = 0 := by omega
 have hbn : ¬ b < 0 := by omega
 simp only [e1,e2,e3,hb0,hbn,decide_false,Bool.false_eq_true,if_false]
 have main : ∀ x : Int,0 ≤ x → x ≤ 2000000000000000000 → x.tmod b = x % b ∧ x.tdiv b = x / b ∧ 0 ≤ x % b ∧ x % b < b ∧ 0 ≤ x / b ∧ x / b ≤ x := fun x h0 h1 =>
  ⟨tmod_nonneg_eq h0,tdiv_nonneg_eq h0,Int.emod_nonneg _ (by omega),Int.emod_lt_of_pos _ hb.1,Int.ediv_nonneg h0 (by omega),Int.ediv_le_self b h0⟩
 by_cases hneg : a < 0
 ·have e4 : (if -a > a then -a else a) = -a := by rw [if_pos (by omega)]
  obtain ⟨m1,m2,m3,m4,m5,m6⟩ := main (-a) (by omega) (by omega)
  have e5 : rdivP a b = -rdivP (-a) b := by rw [← rdivP_neg (show 0 < -a by omega) hb.1]; congr 1; omega
  rw [e5,rdivP_eq (show 0 ≤ -a by omega) hb.1]
  simp only [e4,hneg,m1,m2,decide_true,Bool.true_beq,Bool.not_false,if_true]
  rw [w64 (n := b - -a % b) (by omega) (by omega),w64 (n := -a / b) (by omega) (by omega),w64 (n := -a / b + 1) (by omega) (by omega),w64 (n := 0 - (-a / b + 1)) (by omega) (by omega),w64 (n := 0 - -a / b) (by omega) (by omega)]
  simp only [decide_eq_true_eq,ge_iff_le]
  split
  ·congr 1; omega
  ·congr 1; omega
 ·have e4 : (if -a > a then -a else a) = a := by rw [if_neg (by omega)]
  obtain ⟨m1,m2,m3,m4,m5,m6⟩ := main a (by omega) (by omega)
  rw [rdivP_eq (show 0 ≤ a by omega) hb.1]
  simp only [e4,hneg,m1,m2,decide_false,beq_self_eq_true,Bool.not_true,Bool.false_eq_true,if_false]
  rw [w64 (n := b - a % b) (by omega) (by omega),w64 (n := a / b) (by omega) (by omega),w64 (n := a / b + 1) (by omega) (by omega)]
  simp only [decide_eq_true_eq,ge_iff_le]
  split
  ·rfl
  ·congr 1; omega
theorem spec_l01Div_ok (a b : Int) (ha : -2000000000000000000 ≤ a ∧ a ≤ 2000000000000000000) (hb : 0 < b ∧ b ≤ 2000000000000000000) : spec_l01Div a b = some (rdivP a b) := by
 have hbn : ¬ b < 0 := by omega
 rw [spec_l01Div_eq,rdivP]
 simp only [hbn,decide_false,Bool.false_eq_true,if_false]
 rw [spec_l01Div_p0_eq,w64 (n := 2 * b) (by omega) (by omega),w64 (n := 2 * a) (by omega) (by omega)]
 have hb0 : ¬ 2 * b = 0 := by omega
 simp only [hb0,decide_false,Bool.false_eq_true,if_false]
 by_cases hneg : a < 0
 ·simp only [hneg,decide_true,if_true]
  rw [w64 (n := b - 2 * a) (by omega) (by omega),tdiv_nonneg_eq (by omega)]
  have h1 : 0 ≤ (b - 2 * a) / (2 * b) := Int.ediv_nonneg (by omega) (by omega)
  have h2 : (b - 2 * a) / (2 * b) ≤ b - 2 * a := Int.ediv_le_self _ (by omega)
  rw [w64 (n := (b - 2 * a) / (2 * b)) (by omega) (by omega),w64 (by omega) (by omega)]
  congr 1; omega
 ·simp only [hneg,decide_false,Bool.false_eq_true,if_false]
  rw [w64 (n := 2 * a + b) (by omega) (by omega),tdiv_nonneg_eq (by omega)]
  have h1 : 0 ≤ (2 * a + b) / (2 * b) := Int.ediv_nonneg (by omega) (by omega)
  have h2 : (2 * a + b) / (2 * b) ≤ 2 * a + b := Int.ediv_le_self _ (by omega)
  rw [w64 (n := (2 * a + b) / (2 * b)) (by omega) (by omega)]
theorem index1_none {c : UInt8} : ∀ {a : List UInt8},c ∉ a → Lib.index a [c] = -1
 | [],_ => rfl
 | b :: l,h => by
   have h1 : (c == b) = false := by simp at h; simpa using h.1
   have h2 := index1_none (a := l) (fun e => h (List.mem_cons_of_mem _ e))
   unfold Lib.index
   simp [List.isPrefixOf,h1,h2]
theorem index1_at {c : UInt8} : ∀ {a : List UInt8} (r : List UInt8),c ∉ a → Lib.index (a ++ c :: r) [c] = a.length
 | [],r,_ => by simp [Lib.index,List.isPrefixOf]
 | b :: l,r,h => by
   have h1 : (c == b) = false := by simp at h; simpa using h.1
   have h2 := index1_at (a := l) r (fun e => h (List.mem_cons_of_mem _ e))
   rw [List.cons_append]
   unfold Lib.index
   have h3 : ((l.length : Int) == -1) = false := by rw [beq_eq_false_iff_ne]; omega
   simp [List.isPrefixOf,h1,h2,h3]
theorem split1_last {c : UInt8} {a : List UInt8} (h : c ∉ a) : Lib.splitK [c] 0 (Lib.count a [c]) a = [a] := by
 rw [Lib.count_miss (index1_none h)]; rfl
theorem split1_cons {c : UInt8} {a : List UInt8} (r : List UInt8) (h : c ∉ a) : Lib.splitK [c] 0 (Lib.count (a ++ c :: r) [c]) (a ++ c :: r) = a :: Lib.splitK [c] 0 (Lib.count r [c]) r := by
 have hi := index1_at r h
 have hm : ¬ ((a.length : Int) == -1) = true := by rw [beq_iff_eq]; omega
 have hd : (a ++ c :: r).drop (a.length + [c].length) = r := by simp [List.drop_append]
 rw [Lib.count_hit (by simp) hi,hd,Nat.add_comm 1,Lib.splitK,hi,if_neg hm,Int.toNat_natCast,hd]
 simp
theorem impl_Decimal_ok (n : Int) (h : -9223372036854775808 ≤ n ∧ n ≤ 9223372036854775807) : impl_Decimal n = some (Lib.itoa n) := by
 rw [impl_Decimal_eq,strconv_FormatInt_eq]
 simp [h.1,h.2]
theorem wu64 {n : Int} (h1 : 0 ≤ n) (h2 : n < 18446744073709551616) : IntKind.u64.wrap n = n := by
 have e : IntKind.u64.wrap n = if decide false = true then n % 18446744073709551616 - 18446744073709551616 else n % 18446744073709551616 := by
  simp [IntKind.wrap,IntKind.signed,IntKind.bits]
 rw [e]
 simp; omega
theorem and255 (x : Int) : ((BitVec.ofInt IntKind.u64.bits x &&& BitVec.ofInt IntKind.u64.bits 255).toNat : Int) ≤ 255 := by
 have : (BitVec.ofInt IntKind.u64.bits x &&& BitVec.ofInt IntKind.u64.bits 255).toNat ≤ 255 := by
  rw [BitVec.toNat_and]
  refine Nat.le_trans Nat.and_le_right ?_
  decide
 omega
def SrcOk (s : T_l00Src.ty) (c : Int) : Prop := (∀ x : Int,x ∈ s.1 → 0 ≤ x ∧ x ≤ 255) ∧ s.1.length ≤ 1048576 ∧ (0 : Int) ≤ s.2.1 ∧ (s.2.1 : Int) ≤ c
theorem src_eta (s : T_l00Src.ty) : (s.1,s.2.1,s.2.2.1,()) = s := rfl
theorem SrcOk.up {s : T_l00Src.ty} {c d : Int} (h : SrcOk s c) (hd : c ≤ d) : SrcOk s d := ⟨h.1,h.2.1,h.2.2.1,Int.le_trans h.2.2.2 hd⟩
theorem next_p0_ok (v : Int) (l : List Int) (a h : Int) (c : Int) (hs : SrcOk (l,a,h,()) c) (hc : c ≤ 1152921504606846976) (hv : 0 ≤ v ∧ v ≤ 255) :
 ∃ (u : Int) (s' : T_l00Src.ty),spec_l00Src_next_p0 v l a h = some (u,s') ∧ SrcOk s' (c + 1) ∧ 0 ≤ u ∧ u ≤ 255 := by
 obtain ⟨h1,h2,h3,h4⟩ := hs
 have h3 : 0 ≤ a := h3
 have h4 : a ≤ c := h4
 rw [spec_l00Src_next_p0_eq,w64 (n := a + 1) (by omega) (by omega)]
 split
 ·exact ⟨_,_,rfl,⟨h1,h2,by show (0 : Int) ≤ a + 1; omega,by show (a + 1 : Int) ≤ c + 1; omega⟩,hv⟩
 ·refine ⟨_,_,rfl,⟨h1,h2,by show (0 : Int) ≤ a + 1; omega,by show (a + 1 : Int) ≤ c + 1; omega⟩,?_⟩
  generalize hx : ((BitVec.ofInt IntKind.u64.bits _ &&& BitVec.ofInt IntKind.u64.bits 255).toNat : Int) = x
  have := and255 (Int.fdiv (IntKind.u64.wrap ((IntKind.u64.wrap ((IntKind.u64.wrap (h * 6364136223846793005)) + (IntKind.u64.wrap v))) + 1442695040888963407)) (2 ^ (min (40 : Int).toNat IntKind.u64.bits)))
  rw [hx] at this
  have h0 : 0 ≤ x := by rw [← hx]; exact Int.natCast_nonneg _
  rw [wu64 h0 (by omega),w64 (by omega) (by omega)]
  exact ⟨h0,this⟩
theorem next_core (l : List Int) (a h c : Int) (hs : SrcOk (l,a,h,()) c) (hc : c ≤ 1152921504606846976) : ∃ (u : Int) (s' : T_l00Src.ty),spec_l00Src_next (l,a,h,()) = some (u,s') ∧ SrcOk s' (c + 1) ∧ 0 ≤ u ∧ u ≤ 255 := by
 have h3 : (0 : Int) ≤ a := hs.2.2.1
 rw [spec_l00Src_next_eq]
 dsimp only
 split
 ·rename_i hlt
  simp only [decide_eq_true_eq] at hlt
  have hlt' : a < (List.length (α := Int) l : Int) := hlt
  have hi : a.toNat < l.length := by omega
  obtain ⟨x,hx⟩ : ∃ x,l[a.toNat]? = some x := ⟨_,List.getElem?_eq_getElem hi⟩
  have hm : 0 ≤ x ∧ x ≤ 255 := hs.1 x (List.mem_of_getElem? hx)
  rw [if_pos (by simpa using h3),hx,Option.bind_some,w64 (n := x) (by omega) (by omega)]
  exact next_p0_ok x l a h c hs hc hm
 ·exact next_p0_ok 0 l a h c hs hc ⟨by omega,by omega⟩
theorem next_ok {s : T_l00Src.ty} {c : Int} (hs : SrcOk s c) (hc : c ≤ 1152921504606846976) : ∃ (u : Int) (s' : T_l00Src.ty),spec_l00Src_next s = some (u,s') ∧ SrcOk s' (c + 1) ∧ 0 ≤ u ∧ u ≤ 255 :=
 next_core s.1 s.2.1 s.2.2.1 c hs hc
theorem pick_ok {s : T_l00Src.ty} {c : Int} (hs : SrcOk s c) (hc : c ≤ 1000000000000000000) (n : Int) (hn : n ≤ 65536) :
 ∃ (u : Int) (s' : T_l00Src.ty),spec_l00Src_pick s n = some (u,s') ∧ SrcOk s' (c + 2) ∧ 0 ≤ u ∧ (u = 0 ∨ u < n) := by
 rw [spec_l00Src_pick_eq]
 by_cases h1 : n ≤ 1
 ·simp only [h1,decide_true,if_true]
  exact ⟨0,s,rfl,hs.up (by omega),by omega,.inl rfl⟩
 ·obtain ⟨u,s1,e1,k1,b1,b2⟩ := next_ok hs (by omega)
  have hn0 : ¬ n = 0 := by omega
  simp only [h1,decide_false,Bool.false_eq_true,if_false,e1,Option.bind_some,src_eta,hn0]
  by_cases h2 : n > 200
  ·obtain ⟨v,s2,e2,k2,b3,b4⟩ := next_ok k1 (by omega)
   simp only [h2,decide_true,if_true,e2,Option.bind_some,src_eta]
   rw [w64 (n := u * 256) (by omega) (by omega),w64 (n := u * 256 + v) (by omega) (by omega),tmod_nonneg_eq (by omega)]
   exact ⟨_,s2,rfl,k2.up (by omega),Int.emod_nonneg _ hn0,.inr (Int.emod_lt_of_pos _ (by omega))⟩
  ·simp only [h2,decide_false,Bool.false_eq_true,if_false]
   rw [tmod_nonneg_eq b1]
   exact ⟨_,s1,rfl,k1.up (by omega),Int.emod_nonneg _ hn0,.inr (Int.emod_lt_of_pos _ (by omega))⟩
theorem one_ok {s : T_l00Src.ty} {c : Int} (hs : SrcOk s c) (hc : c ≤ 1000000000000000000) (n : Int) (hn : n ≤ 65536) :
 ∃ (u : Bool) (s' : T_l00Src.ty),spec_l00Src_one s n = some (u,s') ∧ SrcOk s' (c + 2) := by
 obtain ⟨u,s1,e1,k1,_⟩ := pick_ok hs hc n hn
 rw [spec_l00Src_one_eq]
 simp only [e1,Option.bind_some,src_eta]
 exact ⟨_,s1,rfl,k1⟩
theorem among_ok {s : T_l00Src.ty} {c : Int} (hs : SrcOk s c) (hc : c ≤ 1000000000000000000) (l : List Int) (h0 : 0 < l.length) (hn : l.length ≤ 65536) :
 ∃ (u : Int) (s' : T_l00Src.ty),spec_l00Src_among s l = some (u,s') ∧ SrcOk s' (c + 2) ∧ u ∈ l := by
 obtain ⟨u,s1,e1,k1,b1,b2⟩ := pick_ok hs hc (l.length : Int) (by omega)
 have hi : u.toNat < l.length := by omega
 rw [spec_l00Src_among_eq]
 simp only [e1,Option.bind_some,src_eta,b1,decide_true,if_true,List.getElem?_eq_getElem hi]
 exact ⟨_,s1,rfl,k1,List.getElem_mem hi⟩
theorem from_ok (code : List Int) (h1 : ∀ x,x ∈ code → 0 ≤ x ∧ x ≤ 255) (h2 : code.length ≤ 1048576) : ∃ s,spec_l00From code = some s ∧ SrcOk s 0 := by
 rw [spec_l00From_eq]
 exact ⟨_,rfl,h1,h2,Int.le_refl _,Int.le_refl _⟩
theorem bytes_ok {l : List Int} (h : CT.wf (.sl (.one (.int .u8))) l) : ∀ x,x ∈ l → 0 ≤ x ∧ x ≤ 255 := fun x hx => by
 have : (Lit.int .u8 x).wf = true := h.2 x hx
 simp [Lit.wf,IntKind.min,IntKind.max,IntKind.signed,IntKind.bits] at this
 omega
def absI (n : Int) : Int := if n < 0 then -n else n
theorem impl_distance_ok (a b : Int) (h : -2000000000000000000 ≤ a ∧ a ≤ 2000000000000000000) (h' : -2000000000000000000 ≤ b ∧ b ≤ 2000000000000000000) : impl_distance a b = some (absI (a - b)) := by
 rw [impl_distance_eq,w64 (n := a - b) (by omega) (by omega),w64 (n := b - a) (by omega) (by omega),absI]
 congr 1
 split <;> split <;> omega
theorem dig_toNat {d : Nat} (h : d < 10) : (UInt8.ofNat (48 + d)).toNat = 48 + d := by
 rw [UInt8.toNat_ofNat']; omega
theorem decDigits_dig (u : Nat) : ∀ c,c ∈ Lib.decDigits u → 48 ≤ c.toNat ∧ c.toNat ≤ 57 := by
 induction u using Nat.strongRecOn with
 | _ u ih =>
   intro c hc
   rw [Lib.decDigits] at hc
   split at hc
   ·rename_i h
    simp only [List.mem_singleton] at hc
    rw [hc,dig_toNat h]; omega
   ·rename_i h
    rcases List.mem_append.1 hc with h1 | h1
    ·exact ih (u / 10) (by omega) c h1
    ·simp only [List.mem_singleton] at h1
     rw [h1,dig_toNat (by omega)]; omega
theorem decDigits_len : ∀ (k u : Nat),u < 10 ^ (k + 1) → (Lib.decDigits u).length ≤ k + 1 ∧ 1 ≤ (Lib.decDigits u).length
 | 0,u,h => by
   rw [Lib.decDigits,dif_pos (by simpa using h)]; simp
 | k + 1,u,h => by
   rw [Lib.decDigits]
   split
   ·simp
   ·have hq : u / 10 < 10 ^ (k + 1) := by
     have : 10 ^ (k + 1 + 1) = 10 ^ (k + 1) * 10 := Nat.pow_succ ..
     omega
    have := decDigits_len k (u / 10) hq
    simp only [List.length_append,List.length_singleton]
    omega
theorem itoa_pos (u : Nat) : Lib.itoa (u : Int) = Lib.decDigits u := by unfold Lib.itoa; rw [if_neg (by omega)]; simp
theorem up_app : ∀ (a b : List UInt8) (n m : Nat),Lib.parseUint10 n a = .ok m → Lib.parseUint10 n (a ++ b) = Lib.parseUint10 m b
 | [],b,n,m,h => by
   simp only [Lib.parseUint10,Lib.NumEnd.ok.injEq] at h
   rw [h]; rfl
 | c :: r,b,n,m,h => by
   simp only [Lib.parseUint10] at h
   rw [List.cons_append,Lib.parseUint10]
   split at h
   ·rename_i h1
    split at h
    ·cases h
    ·rename_i h2
     split at h
     ·cases h
     ·rename_i h3
      rw [if_pos h1,if_neg h2,if_neg h3]
      exact up_app r b _ m h
   ·cases h
theorem up_dec (u : Nat) (hu : u < 10 ^ 18) : Lib.parseUint10 0 (Lib.decDigits u) = .ok u := by
 have e18 : (10 : Nat) ^ 18 = 1000000000000000000 := by decide
 induction u using Nat.strongRecOn with
 | _ u ih =>
   rw [Lib.decDigits]
   split
   ·rename_i h
    simp only [Lib.parseUint10]
    rw [dig_toNat h,if_pos (by omega),if_neg (by omega),if_neg (by omega)]
    congr 1; omega
   ·rename_i h
    rw [up_app _ _ 0 (u / 10) (ih (u / 10) (by omega) (by omega))]
    simp only [Lib.parseUint10]
    rw [dig_toNat (by omega),if_pos (by omega),if_neg (by omega),if_neg (by omega)]
    congr 1; omega
theorem dec_ne (u : Nat) : Lib.decDigits u ≠ [] := by
 rw [Lib.decDigits]; split <;> simp
theorem itoa_neg (u : Nat) (h : 0 < u) : Lib.itoa (-(u : Int)) = 45 :: Lib.decDigits u := by
 unfold Lib.itoa; rw [if_pos (by omega)]; simp
theorem readDecP_itoa (n : Int) (h : -1000000000000 ≤ n ∧ n ≤ 1000000000000) : readDecP (Lib.itoa n) = (n,true) := by
 have e18 : (10 : Nat) ^ 18 = 1000000000000000000 := by decide
 have e13 : (10 : Nat) ^ (13 + 1) = 100000000000000 := by decide
 by_cases hn : n < 0
 ·obtain ⟨u,rfl,hu0,hu⟩ : ∃ u : Nat,n = -(u : Int) ∧ 0 < u ∧ u ≤ 1000000000000 := ⟨n.natAbs,by omega,by omega,by omega⟩
  have hl := decDigits_len 13 u (by omega)
  unfold readDecP
  rw [itoa_neg u hu0]
  have ht : Lib.trimPrefix (45 :: Lib.decDigits u) [45] = Lib.decDigits u := by simp [Lib.trimPrefix,Lib.hasPrefix,List.isPrefixOf]
  have hp : Lib.parseIntB 64 (45 :: Lib.decDigits u) = .ok (-(u : Int)) := by
   have hm : Lib.parseMag (Lib.decDigits u) = .ok u := by rw [Lib.parseMag,if_neg (dec_ne u),up_dec u (by omega)]
   rw [Lib.parseIntB_64,Lib.atoiAll]
   simp only [show (45 : UInt8).toNat = 45 from rfl,or_true,if_true,hm]
   rw [if_neg (by simp),if_neg (by simp; omega)]
  rw [ht,if_neg (by omega),hp]
  simp only [itoa_neg u hu0,if_true]
 ·obtain ⟨u,rfl,hu⟩ : ∃ u : Nat,n = (u : Int) ∧ u ≤ 1000000000000 := ⟨n.toNat,by omega,by omega⟩
  have hl := decDigits_len 13 u (by omega)
  unfold readDecP
  rw [itoa_pos u]
  cases hd : Lib.decDigits u with
  | nil => exact absurd hd (dec_ne u)
  | cons c r =>
    have hc := decDigits_dig u c (by rw [hd]; simp)
    have h45 : c ≠ 45 := fun e => by subst e; simp at hc
    have ht : Lib.trimPrefix (c :: r) [45] = c :: r := by simp [Lib.trimPrefix,Lib.hasPrefix,List.isPrefixOf,Ne.symm h45]
    have hp : Lib.parseIntB 64 (c :: r) = .ok (u : Int) := by
     have hm : Lib.parseMag (c :: r) = .ok u := by rw [← hd,Lib.parseMag,if_neg (dec_ne u),up_dec u (by omega)]
     rw [Lib.parseIntB_64,Lib.atoiAll]
     have h1 : ¬ c.toNat = 43 := by omega
     have h2 : ¬ c.toNat = 45 := by omega
     simp only [h1,h2,or_self,if_false,hm,not_false_eq_true,true_and,false_and]
     rw [if_neg (by omega)]
    rw [ht,← hd,if_neg (by omega),hd,hp]
    simp only [itoa_pos u,hd,if_true]
theorem itoa_len (n : Int) (h : -1000000000000 ≤ n ∧ n ≤ 1000000000000) : 1 ≤ (Lib.itoa n).length ∧ (Lib.itoa n).length ≤ 15 := by
 have e13 : (10 : Nat) ^ (13 + 1) = 100000000000000 := by decide
 unfold Lib.itoa
 split
 ·have := decDigits_len 13 n.natAbs (by omega)
  simp; omega
 ·have := decDigits_len 13 n.toNat (by omega)
  omega
theorem itoa_ne (n : Int) : Lib.itoa n ≠ [45] := by
 unfold Lib.itoa
 split
 ·have := dec_ne n.natAbs
  intro e; simp at e; exact this e
 ·intro e
  have := decDigits_dig n.toNat 45 (by rw [e]; simp)
  simp at this
theorem itoa_mem (n : Int) (c : UInt8) (hc : c ∈ Lib.itoa n) : c = 45 ∨ 48 ≤ c.toNat ∧ c.toNat ≤ 57 := by
 unfold Lib.itoa at hc
 split at hc
 ·rcases List.mem_cons.1 hc with h | h
  ·exact .inl h
  ·exact .inr (decDigits_dig _ c h)
 ·exact .inr (decDigits_dig _ c hc)
theorem itoa_no (n : Int) {c : UInt8} (h : c ≠ 45) (h' : c.toNat < 48 ∨ 57 < c.toNat) : c ∉ Lib.itoa n := fun e => by
 rcases itoa_mem n c e with h1 | h1
 ·exact h h1
 ·omega
theorem join_cons2 (x y : List UInt8) (r : List (List UInt8)) (c : UInt8) : Lib.join (x :: y :: r) [c] = x ++ c :: Lib.join (y :: r) [c] := by
 rw [Lib.join_cons,Lib.join_cons]
 simp [Lib.joinTail]
theorem split_join {c : UInt8} : ∀ (x : List UInt8) (r : List (List UInt8)),(∀ y,y ∈ x :: r → c ∉ y) →
 Lib.splitK [c] 0 (Lib.count (Lib.join (x :: r) [c]) [c]) (Lib.join (x :: r) [c]) = x :: r
 | x,[],h => by rw [Lib.join_one]; exact split1_last (h x (by simp))
 | x,y :: r,h => by
   rw [join_cons2,split1_cons _ (h x (by simp)),split_join y r fun z hz => h z (List.mem_cons_of_mem _ hz)]
theorem lens_bd {m : Nat} : ∀ (l : List (List UInt8)),(∀ x,x ∈ l → x.length ≤ m) → Lib.lens l ≤ m * l.length
 | [],_ => by simp [Lib.lens]
 | x :: r,h => by
   have h1 := lens_bd r fun y hy => h y (List.mem_cons_of_mem _ hy)
   have h2 := h x (by simp)
   have e : Lib.lens (x :: r) = x.length + Lib.lens r := by simp [Lib.lens]
   rw [e,List.length_cons,Nat.mul_succ]; omega
theorem join_len {m : Nat} {c : UInt8} (l : List (List UInt8)) (h : ∀ x,x ∈ l → x.length ≤ m) : (Lib.join l [c]).length ≤ (m + 1) * l.length := by
 cases l with
 | nil => simp [Lib.join_nil]
 | cons x r =>
   have h1 := lens_bd (x :: r) h
   rw [Lib.join_length,Nat.add_mul,List.length_singleton,List.length_cons] at *
   omega
def listP (l : List Int) : List UInt8 := Lib.join (l.map Lib.itoa) [44]
theorem listP_len (l : List Int) (hl : l.length ≤ 64) (hx : ∀ x,x ∈ l → -1000000000000 ≤ x ∧ x ≤ 1000000000000) : (listP l).length ≤ 1024 := by
 have h := join_len (m := 15) (c := 44) (l.map Lib.itoa) fun x hx' => by
  obtain ⟨n,hn,rfl⟩ := List.mem_map.1 hx'
  exact (itoa_len n (hx n hn)).2
 rw [List.length_map] at h
 have : (listP l).length ≤ 16 * l.length := h
 omega
theorem impl_ReadDecimal_ok (n : Int) (h : -1000000000000 ≤ n ∧ n ≤ 1000000000000) : impl_ReadDecimal (Lib.itoa n) = some (n,true) := by
 rw [impl_ReadDecimal_eq,readDecP_itoa n h]
theorem impl_ListText_p0_ok (l : List Int) (hl : l.length ≤ 64) (hx : ∀ x,x ∈ l → -1000000000000 ≤ x ∧ x ≤ 1000000000000) : ∀ (k i : Nat),i + k = l.length → impl_ListText_p0 l l.length i ((l.take i).map Lib.itoa) = some (listP l)
 | 0,i,hk => by
   rw [impl_ListText_p0_eq]
   have : ¬ (i : Int) < (l.length : Int) := by omega
   have hb := listP_len l hl hx
   have e : (Lib.join (l.map Lib.itoa) [44]).length ≤ 140737488355328 := by
    have : (Lib.join (l.map Lib.itoa) [44]).length ≤ 1024 := hb
    omega
   rw [List.take_length,List.take_of_length_le (by omega : l.length ≤ i)]
   simp only [this,decide_false,Bool.false_eq_true,if_false,strings_Join_eq]
   have e2 : (l.map Lib.itoa).length ≤ 140737488355328 := by rw [List.length_map]; omega
   simp only [e2,e,decide_true,Bool.and_self,if_true,Option.bind_some]
   rfl
 | k + 1,i,hk => by
   have hi : i < l.length := by omega
   have hlt : (i : Int) < (l.length : Int) := by omega
   have hi0 : (0 : Int) ≤ (i : Int) := by omega
   have hb := hx l[i] (List.getElem_mem hi)
   have hr : inR l[i] (-1000000000000) 1000000000000 = true := inR_iff'.2 hb
   have hlim : ((l.take i).map Lib.itoa).length + 1 < lim := by rw [lim_eq,List.length_map,List.length_take]; omega
   rw [impl_ListText_p0_eq]
   simp only [hlt,decide_true,if_true,hi0,Int.toNat_natCast,getElem?_lt hi,Option.bind_some,impl_within_ok,hr,Bool.not_true,Bool.false_eq_true,if_false,impl_Decimal_ok l[i] (by omega),hlim,wsucc (show i < 4611686018427387904 by omega)]
   have := impl_ListText_p0_ok l hl hx k (i + 1) (by omega)
   rw [List.take_length]
   rw [show (l.take (i + 1)).map Lib.itoa = (l.take i).map Lib.itoa ++ [Lib.itoa l[i]] by rw [List.take_add_one,getElem?_lt hi,List.map_append]; rfl] at this
   exact this
theorem impl_ListText_ok (l : List Int) (h0 : l ≠ []) (hl : l.length ≤ 64) (hx : ∀ x,x ∈ l → -1000000000000 ≤ x ∧ x ≤ 1000000000000) : impl_ListText l = some (listP l) := by
 rw [impl_ListText_eq,impl_few_eq]
 have h1 : (l.length : Int) ≤ 64 := by omega
 have h2 : ((l.length : Int) == 0) = false := by
  rw [beq_eq_false_iff_ne]
  intro e
  exact h0 (List.length_eq_zero_iff.1 (by omega))
 simp only [h1,decide_true,Option.bind_some,Bool.not_true,Bool.false_eq_true,if_false,h2]
 exact impl_ListText_p0_ok l hl hx l.length 0 (by omega)
theorem impl_ReadList_p0_ok (l : List Int) (hl : l.length ≤ 64) (hx : ∀ x,x ∈ l → -1000000000000 ≤ x ∧ x ≤ 1000000000000) : ∀ (k i : Nat),i + k = l.length → impl_ReadList_p0 (l.map Lib.itoa) l.length i (l.take i) = some (l,true)
 | 0,i,hk => by
   rw [impl_ReadList_p0_eq]
   have : ¬ (i : Int) < (l.length : Int) := by omega
   simp only [this,decide_false,Bool.false_eq_true,if_false,List.take_length,List.take_of_length_le (by omega : l.length ≤ i)]
 | k + 1,i,hk => by
   have hi : i < l.length := by omega
   have hlt : (i : Int) < (l.length : Int) := by omega
   have hi0 : (0 : Int) ≤ (i : Int) := by omega
   have hb := hx l[i] (List.getElem_mem hi)
   have hr : inR l[i] (-1000000000000) 1000000000000 = true := inR_iff'.2 hb
   have hlim : (l.take i).length + 1 < lim := by rw [lim_eq,List.length_take]; omega
   have hg : (l.map Lib.itoa)[i]? = some (Lib.itoa l[i]) := by rw [List.getElem?_map,getElem?_lt hi]; rfl
   have h64 : (((l.take i).length : Int) == 64) = false := by rw [beq_eq_false_iff_ne,List.length_take]; omega
   rw [impl_ReadList_p0_eq]
   simp only [hlt,decide_true,if_true,hi0,Int.toNat_natCast,hg,Option.bind_some,impl_ReadDecimal_ok l[i] hb,impl_within_ok,hr,Bool.not_true,Bool.false_eq_true,if_false,h64,hlim,wsucc (show i < 4611686018427387904 by omega)]
   have := impl_ReadList_p0_ok l hl hx k (i + 1) (by omega)
   rw [List.take_length]
   rw [List.take_add_one,getElem?_lt hi] at this
   simpa using this
theorem impl_ReadList_ok (l : List Int) (h0 : l ≠ []) (hl : l.length ≤ 64) (hx : ∀ x,x ∈ l → -1000000000000 ≤ x ∧ x ≤ 1000000000000) : impl_ReadList (listP l) = some (l,true) := by
 have hb := listP_len l hl hx
 have hs : Lib.splitK [44] 0 (Lib.count (listP l) [44]) (listP l) = l.map Lib.itoa := by
  cases l with
  | nil => exact absurd rfl h0
  | cons a r =>
    unfold listP
    rw [List.map_cons]
    exact split_join _ _ fun y hy => by
     have hy' : y ∈ (a :: r).map Lib.itoa := hy
     obtain ⟨n,hn,rfl⟩ := List.mem_map.1 hy'
     exact itoa_no n (by decide) (by decide)
 have hne : (listP l == [45]) = false := by
  rw [beq_eq_false_iff_ne]
  intro e
  cases l with
  | nil => exact absurd rfl h0
  | cons a r =>
    unfold listP at e
    rw [List.map_cons,Lib.join_cons] at e
    have h1 := (itoa_len a (hx a (by simp))).1
    cases hi : Lib.itoa a with
    | nil => rw [hi] at h1; simp at h1
    | cons c t =>
      rw [hi,List.cons_append] at e
      injection e with e1 e2
      have e3 := (List.append_eq_nil_iff.1 e2).1
      exact itoa_ne a (by rw [hi,e1,e3])
 rw [impl_ReadList_eq]
 simp only [hne,Bool.false_eq_true,if_false,strings_Split_eq]
 have h1 : (listP l).length < 4294967281 := by omega
 simp only [h1,List.length_singleton,Nat.le_refl,decide_true,Bool.and_self,if_true,Option.bind_some,hs,List.length_map]
 exact impl_ReadList_p0_ok l hl hx l.length 0 (by omega)
theorem join_no {c d : UInt8} (hcd : c ≠ d) : ∀ (x : List UInt8) (r : List (List UInt8)),(∀ y,y ∈ x :: r → c ∉ y) → c ∉ Lib.join (x :: r) [d]
 | x,[],h => by rw [Lib.join_one]; exact h x (by simp)
 | x,y :: r,h => by
   rw [join_cons2]
   intro e
   rcases List.mem_append.1 e with e | e
   ·exact h x (by simp) e
   ·rcases List.mem_cons.1 e with e | e
    ·exact hcd e
    ·exact join_no hcd y r (fun z hz => h z (List.mem_cons_of_mem _ hz)) e
theorem listP_no {l : List Int} {c : UInt8} (h0 : l ≠ []) (h1 : c ≠ 44) (h2 : c ≠ 45) (h3 : c.toNat < 48 ∨ 57 < c.toNat) : c ∉ listP l := by
 cases l with
 | nil => exact absurd rfl h0
 | cons a r =>
   unfold listP
   rw [List.map_cons]
   exact join_no h1 _ _ fun y hy => by
    have hy' : y ∈ (a :: r).map Lib.itoa := hy
    obtain ⟨n,hn,rfl⟩ := List.mem_map.1 hy'
    exact itoa_no n h2 h3
def thickRow (r : List Int) : Bool := r.all fun x => inR x 1 200
def plateOk (xs : List (List Int)) : Bool :=
 match xs with
 | [] => false
 | r0 :: _ => decide (xs.length ≤ 10) && (decide (1 ≤ r0.length ∧ r0.length ≤ 10) && xs.all fun r => decide (r.length = r0.length) && thickRow r)
theorem impl_isGrid_p2_ok (xs : List (List Int)) (row : List Int) (hr : row.length ≤ 1048576) (i : Nat) (hi : i ≤ 1048576) : ∀ (k j : Nat),j + k = row.length →
 impl_isGrid_p2 xs 1 200 xs xs.length i row row.length j = if thickRow (row.drop j) then impl_isGrid_p1 xs 1 200 xs xs.length ((i + 1 : Nat) : Int) else some false
 | 0,j,hk => by
   rw [impl_isGrid_p2_eq,List.drop_eq_nil_of_le (by omega)]
   have : ¬ (j : Int) < (row.length : Int) := by omega
   have hw : IntKind.i64.wrap ((i : Int) + 1) = ((i + 1 : Nat) : Int) := by rw [w64 (by omega) (by omega)]; omega
   simp only [this,decide_false,Bool.false_eq_true,if_false,hw,thickRow,List.all_nil,if_true]
 | k + 1,j,hk => by
   have hj : j < row.length := by omega
   have hlt : (j : Int) < (row.length : Int) := by omega
   have hw : IntKind.i64.wrap ((j : Int) + 1) = ((j + 1 : Nat) : Int) := by rw [w64 (by omega) (by omega)]; omega
   have ih := impl_isGrid_p2_ok xs row hr i hi k (j + 1) (by omega)
   rw [impl_isGrid_p2_eq,List.drop_eq_getElem_cons hj]
   simp only [hlt,decide_true,if_true,Int.natCast_nonneg,Int.toNat_natCast,List.getElem?_eq_getElem hj,Option.bind_some,impl_within_ok,hw,ih,thickRow,List.all_cons]
   by_cases c : inR row[j] 1 200 = true <;> simp [c]
theorem impl_isGrid_p1_ok (xs : List (List Int)) (r0 : List Int) (h0 : xs[0]? = some r0) (hs : xs.length ≤ 1048576) (hx : ∀ x,x ∈ xs → x.length ≤ 1048576) : ∀ (k i : Nat),i + k = xs.length →
 impl_isGrid_p1 xs 1 200 xs xs.length i = some ((xs.drop i).all fun r => decide (r.length = r0.length) && thickRow r)
 | 0,i,hk => by
   rw [impl_isGrid_p1_eq,List.drop_eq_nil_of_le (by omega)]
   have : ¬ (i : Int) < (xs.length : Int) := by omega
   simp [this]
 | k + 1,i,hk => by
   have hi : i < xs.length := by omega
   have hlt : (i : Int) < (xs.length : Int) := by omega
   have ih := impl_isGrid_p1_ok xs r0 h0 hs hx k (i + 1) (by omega)
   have h2 := impl_isGrid_p2_ok xs xs[i] (hx _ (List.getElem_mem hi)) i (by omega) xs[i].length 0 (by omega)
   have h2' : impl_isGrid_p2 xs 1 200 xs xs.length i xs[i] xs[i].length 0 = if thickRow xs[i] then impl_isGrid_p1 xs 1 200 xs xs.length ((i + 1 : Nat) : Int) else some false := h2
   rw [impl_isGrid_p1_eq,List.drop_eq_getElem_cons hi]
   simp only [hlt,decide_true,if_true,Int.natCast_nonneg,Int.toNat_natCast,List.getElem?_eq_getElem hi,Option.bind_some,h0,h2',ih,List.all_cons]
   by_cases hl : xs[i].length = r0.length
   ·by_cases ht : thickRow xs[i] = true
    ·simp [hl,ht]
    ·simp [hl,ht]
   ·have : ((xs[i].length : Int) != (r0.length : Int)) = true := by rw [bne_iff_ne]; omega
    simp only [this,if_true,hl,decide_false,Bool.false_and]
theorem impl_ValidPlate_ok (xs : List (List Int)) (hs : xs.length ≤ 1048576) (hx : ∀ x,x ∈ xs → x.length ≤ 1048576) : impl_ValidPlate xs = some (plateOk xs) := by
 rw [impl_ValidPlate_eq,impl_isGrid_eq,impl_within_ok,Option.bind_some]
 cases xs with
 | nil => simp [plateOk,inR]
 | cons r0 l =>
   have h1 := impl_isGrid_p1_ok (r0 :: l) r0 rfl hs hx (r0 :: l).length 0 (by omega)
   have h1' : impl_isGrid_p1 (r0 :: l) 1 200 (r0 :: l) (r0 :: l).length 0 = _ := h1
   rw [List.drop_zero] at h1'
   simp only [List.getElem?_cons_zero,Option.bind_some,impl_within_ok,impl_isGrid_p0_eq,h1',plateOk]
   by_cases c1 : (r0 :: l).length ≤ 10
   ·have e1 : inR ((r0 :: l).length : Int) 1 10 = true := by rw [inR_iff']; simp at c1 ⊢; omega
    simp only [e1,c1,Bool.not_true,Bool.false_eq_true,if_false,decide_true,Bool.true_and]
    by_cases c2 : 1 ≤ r0.length ∧ r0.length ≤ 10
    ·have e2 : inR (r0.length : Int) 1 10 = true := by rw [inR_iff']; omega
     simp only [e2,c2,and_self,Bool.not_true,Bool.false_eq_true,if_false,decide_true,Bool.true_and,Option.bind_some]
    ·have e2 : inR (r0.length : Int) 1 10 = false := by rw [Bool.eq_false_iff,ne_eq,inR_iff']; omega
     simp only [e2,c2,Bool.not_false,if_true,decide_false,Bool.false_and,Option.bind_some]
   ·have e1 : inR ((r0 :: l).length : Int) 1 10 = false := by rw [Bool.eq_false_iff,ne_eq,inR_iff']; omega
    simp only [e1,c1,Bool.not_false,if_true,decide_false,Bool.false_and,Option.bind_some]
theorem spec_l08Ok_p2_ok (xs : List (List Int)) (hs : xs.length ≤ 1048576) (i : Nat) (hi : i < xs.length) (hr : xs[i].length ≤ 1048576) : ∀ (k j : Nat),j + k = xs[i].length →
 spec_l08Ok_p2 xs i j = if thickRow (xs[i].drop j) then spec_l08Ok_p0 xs ((i + 1 : Nat) : Int) else some false
 | 0,j,hk => by
   rw [spec_l08Ok_p2_eq,List.drop_eq_nil_of_le (by omega)]
   have : ¬ (j : Int) < (xs[i].length : Int) := by omega
   have hw : IntKind.i64.wrap ((i : Int) + 1) = ((i + 1 : Nat) : Int) := by rw [w64 (by omega) (by omega)]; omega
   simp only [Int.natCast_nonneg,decide_true,if_true,Int.toNat_natCast,List.getElem?_eq_getElem hi,Option.bind_some,this,decide_false,Bool.false_eq_true,if_false,hw,thickRow,List.all_nil]
 | k + 1,j,hk => by
   have hj : j < xs[i].length := by omega
   have hlt : (j : Int) < (xs[i].length : Int) := by omega
   have hw : IntKind.i64.wrap ((j : Int) + 1) = ((j + 1 : Nat) : Int) := by rw [w64 (by omega) (by omega)]; omega
   have ih := spec_l08Ok_p2_ok xs hs i hi hr k (j + 1) (by omega)
   rw [spec_l08Ok_p2_eq,List.drop_eq_getElem_cons hj]
   simp only [Int.natCast_nonneg,hlt,decide_true,if_true,Int.toNat_natCast,List.getElem?_eq_getElem hi,List.getElem?_eq_getElem hj,Option.bind_some,spec_l08Thick_eq,spec_l00In_ok,hw,ih,thickRow,List.all_cons]
   by_cases c : inR xs[i][j] 1 200 = true <;> simp [c]
theorem spec_l08Ok_p0_ok (xs : List (List Int)) (r0 : List Int) (h0 : xs[0]? = some r0) (hs : xs.length ≤ 1048576) (hx : ∀ x,x ∈ xs → x.length ≤ 1048576) : ∀ (k i : Nat),i + k = xs.length →
 spec_l08Ok_p0 xs i = some (((xs.drop i).all fun r => decide (1 ≤ r.length ∧ r.length ≤ 10) && (decide (r.length = r0.length) && thickRow r)) && decide (xs.length ≤ 10))
 | 0,i,hk => by
   rw [spec_l08Ok_p0_eq,List.drop_eq_nil_of_le (by omega)]
   have : ¬ (i : Int) < (xs.length : Int) := by omega
   have h1 : (xs.length : Int) ≥ 1 := by
    cases xs with
    | nil => simp at h0
    | cons a l => simp; omega
   simp only [this,decide_false,Bool.false_eq_true,if_false,h1,decide_true,if_true,List.all_nil,Bool.true_and]
   congr 1
   simp only [decide_eq_decide]; omega
 | k + 1,i,hk => by
   have hi : i < xs.length := by omega
   have hlt : (i : Int) < (xs.length : Int) := by omega
   have ih := spec_l08Ok_p0_ok xs r0 h0 hs hx k (i + 1) (by omega)
   have h2 := spec_l08Ok_p2_ok xs hs i hi (hx _ (List.getElem_mem hi)) xs[i].length 0 (by omega)
   have h2' : spec_l08Ok_p2 xs i 0 = if thickRow xs[i] then spec_l08Ok_p0 xs ((i + 1 : Nat) : Int) else some false := h2
   rw [spec_l08Ok_p0_eq,List.drop_eq_getElem_cons hi]
   simp only [hlt,decide_true,if_true,Int.natCast_nonneg,Int.toNat_natCast,List.getElem?_eq_getElem hi,Option.bind_some,h0,spec_l08Ok_p1_eq,h2',ih,List.all_cons]
   by_cases g1 : (xs[i].length : Int) < 1
   ·have : ¬ (1 ≤ xs[i].length ∧ xs[i].length ≤ 10) := by omega
    simp only [g1,this,decide_true,decide_false,if_true,Bool.false_and]
   by_cases g2 : (xs[i].length : Int) > 10
   ·have : ¬ (1 ≤ xs[i].length ∧ xs[i].length ≤ 10) := by omega
    simp only [g1,g2,this,decide_true,decide_false,if_true,Bool.false_eq_true,if_false,Bool.false_and]
   have g3 : 1 ≤ xs[i].length ∧ xs[i].length ≤ 10 := by omega
   by_cases hl : xs[i].length = r0.length
   ·have hl' : ((xs[i].length : Int) != (r0.length : Int)) = false := by rw [hl]; simp
    have hl2 : decide (xs[i].length = r0.length) = true := by simpa using hl
    by_cases ht : thickRow xs[i] = true
    ·simp only [g1,g2,g3,and_self,hl',hl2,ht,decide_true,decide_false,if_true,Bool.false_eq_true,if_false,Bool.true_and]
    ·simp only [g1,g2,g3,and_self,hl',hl2,ht,decide_true,decide_false,if_true,Bool.false_eq_true,if_false,Bool.true_and,Bool.false_and]
   ·have hl' : ((xs[i].length : Int) != (r0.length : Int)) = true := by rw [bne_iff_ne]; omega
    simp only [g1,g2,g3,and_self,hl',hl,decide_true,decide_false,if_true,Bool.false_eq_true,if_false,Bool.true_and,Bool.false_and]
theorem spec_l08Ok_ok (xs : List (List Int)) (hs : xs.length ≤ 1048576) (hx : ∀ x,x ∈ xs → x.length ≤ 1048576) : spec_l08Ok xs = some (plateOk xs) := by
 rw [spec_l08Ok_eq]
 cases xs with
 | nil => rw [spec_l08Ok_p0_eq]; simp [plateOk]
 | cons r0 l =>
   have h1 := spec_l08Ok_p0_ok (r0 :: l) r0 rfl hs hx (r0 :: l).length 0 (by omega)
   have h1' : spec_l08Ok_p0 (r0 :: l) 0 = _ := h1
   rw [List.drop_zero] at h1'
   rw [h1',plateOk]
   congr 1
   rw [Bool.eq_iff_iff]
   simp only [Bool.and_eq_true,decide_eq_true_eq,List.all_eq_true]
   constructor
   ·rintro ⟨h,hl⟩
    have h2 := (h r0 (by simp)).1
    exact ⟨hl,h2,fun r hr => (h r hr).2⟩
   ·rintro ⟨hl,h2,h⟩
    refine ⟨fun r hr => ⟨?_,h r hr⟩,hl⟩
    have := (h r hr).1
    omega
end Go.Ab.P
