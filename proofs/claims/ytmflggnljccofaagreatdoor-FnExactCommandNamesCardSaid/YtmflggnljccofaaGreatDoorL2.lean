/- The abstract interpreter and its soundness, second part. Conditions: none. -/
import Derived.Test.YtmflggnljccofaaGreatDoorL1
import Derived.Deep.MidRow
import Derived.Deep.AppendSrc
set_option linter.unusedVariables false
set_option linter.unusedSimpArgs false
namespace Go.Ab
section
variable {P : Program} {φ : Nat → Nat} {w0 : World} {L : Lent} {E E' : Env} {st st' : St} {ev ev' : Nat → Value} {w w' : World} {r r' : Nat → Option Root} {a : Act}
theorem room_setCell {w : World} {b n : Nat} {ad : Addr} {v : Value} (h : Room w b n) : Room (w.setCell ad v) b n := by
 obtain ⟨C,e,fr,h1,h2,h3⟩ := h
 by_cases hb : ad.block = b
 ·refine ⟨if ad.spot.isSome then C else C.setIfInBounds ad.off v,e,fr,?_,?_,fun off ho => ?_⟩
  ·simp only [World.setCell,hb]
   rw [Array.getElem?_modify,h1]
   simp
  ·split <;> simpa using h2
  ·rw [World.frozen?_setCell]
   refine h3 off ?_
   split at ho <;> simpa using ho
 ·have : (w.setCell ad v).heap[b]? = w.heap[b]? := by
   simp only [World.setCell]
   rw [Array.getElem?_modify]
   simp [hb]
  exact Room.of_block this ⟨C,e,fr,h1,h2,h3⟩
theorem setCells_facts (b : Nat) : ∀ (vs : List Value) (o : Nat) (w : World),(∀ b',b' ≠ b → (w.setCells b o vs).heap[b']? = w.heap[b']?) ∧ (w.setCells b o vs).heap.size = w.heap.size ∧
 ((w.setCells b o vs).os = w.os ∧ (w.setCells b o vs).output = w.output) ∧ (∀ n,Room w b n → Room (w.setCells b o vs) b n)
 | [],o,w => ⟨fun _ _ => rfl,rfl,⟨rfl,rfl⟩,fun _ h => h⟩
 | v :: vs,o,w => by
   obtain ⟨h1,h2,h3,h4⟩ := setCells_facts b vs (o + 1) (w.setCell ⟨b,o,none⟩ v)
   refine ⟨fun b' hb => ?_,?_,?_,fun n hn => h4 n (room_setCell hn)⟩
   ·rw [World.setCells,h1 b' hb]
    simp only [World.setCell]
    rw [Array.getElem?_modify]
    have : ¬ b = b' := fun e => hb e.symm
    simp [this]
   ·rw [World.setCells,h2]; simp [World.setCell]
   ·rw [World.setCells]; exact h3
theorem Wr.cells {b o : Nat} {vs : List Value} (hn : ¬ E.ok b) (hz : Zone w0 L b) (sh : ∀ q R',r' q = some R' → ∃ R,r q = some R ∧ R'.b = R.b ∧ R'.z = R.z ∧ R'.xs.length = R.xs.length) :
 Wr w0 L E r r' w (w.setCells b o vs) b := by
 obtain ⟨h1,h2,h3,h4⟩ := setCells_facts b vs o w
 exact ⟨h1,h2,h3,fun off => World.frozen?_setCells b vs o w _,h4,hn,hz,sh⟩
theorem Room.cell {b n : Nat} (h : Room w b n) {j : Nat} (hj : j < n) : (w.cell? ⟨b,j,none⟩).isSome = true ∧ w.frozen? ⟨b,j,none⟩ = false := by
 obtain ⟨C,e,fr,h1,h2,h3⟩ := h
 refine ⟨?_,h3 j (by omega)⟩
 simp only [World.cell?,h1]
 simp
 omega
theorem Cells.write {b o : Nat} {vs news : List Value} {c : Nat} (hv : Cells w b o vs) (hr : Room w b (o + vs.length)) (hc : c + news.length ≤ vs.length) :
 Cells (w.setCells b (o + c) news) b o (vs.take c ++ news ++ vs.drop (c + news.length)) := fun j v hj => by
 rcases Nat.lt_or_ge j c with h1 | h1
 ·rw [World.cell?_setCells_out b news (o + c) w ⟨b,o + j,none⟩ (fun _ _ => .inl (by simp; omega))]
  refine hv j v ?_
  rw [List.append_assoc,List.getElem?_append_left (by simp; omega)] at hj
  rw [List.getElem?_take,if_pos h1] at hj
  exact hj
 ·rcases Nat.lt_or_ge j (c + news.length) with h2 | h2
  ·have hin := World.cell?_setCells_in b news (o + c) w (fun i hi => (hr.cell (by omega)).1) (j - c) (by omega)
   rw [show o + c + (j - c) = o + j from by omega] at hin
   rw [hin]
   rw [List.append_assoc,List.getElem?_append_right (by simp; omega),List.getElem?_append_left (by simp; omega)] at hj
   have : (vs.take c).length = c := by simp; omega
   rw [this,List.getElem?_eq_getElem (by omega)] at hj
   exact hj
  ·rw [World.cell?_setCells_out b news (o + c) w ⟨b,o + j,none⟩ (fun _ _ => .inr (by simp; omega))]
   refine hv j v ?_
   have hl : (vs.take c ++ news).length = c + news.length := by simp; omega
   rw [List.getElem?_append_right (by rw [hl]; exact h2),hl] at hj
   simpa [show c + news.length + (j - (c + news.length)) = j from by omega] using hj
theorem Value.one_cell {v : Value} (h : (∀ cs,v ≠ .agg cs) ∧ ∀ vs,v ≠ .tuple vs) : v.oneCell' = true := by
 cases v <;> first | rfl | exact absurd rfl (h.1 _) | exact absurd rfl (h.2 _)
theorem run_storeVar_cells {t : TypeId} {b o n : Nat} {v : Value} (ht : szIs P t n = true) (hl : v.cells.size = n) (h1 : ∀ u ∈ v.cells.toList,u.oneCell' = true) (hr : Room w b (o + n)) :
 (storeVar t ⟨b,o,none⟩ v).run P w = .ok () (w.setCells b o v.cells.toList) := by
 obtain ⟨i,hi,hs⟩ := szIs_spec ht
 have hst := run_storeCells_cells (P := P) b o v.cells.toList 0 w (fun j hj => by simpa using (hr.cell (by simp at hj; omega)).1) (fun j hj => by simpa using (hr.cell (by simp at hj; omega)).2) h1
 simp only [Nat.add_zero] at hst
 simp [storeVar,sizeOf,typeInfo,hi,hl,hs,hst]
theorem reCell_cells {old : A} {cs : List A} (hl : cs.length = old.cells.length) (hn : ∀ y ∈ cs,∀ l,y ≠ .agg l) : (reCell old cs).cells = cs := by
 by_cases ho : ∃ l,old = .agg l
 ·obtain ⟨l,rfl⟩ := ho; rfl
 ·have ho' : ∀ l,old ≠ .agg l := fun l e => ho ⟨l,e⟩
  rw [A.cells_one ho'] at hl
  have : reCell old cs = cs.headD .any := by cases old <;> first | rfl | exact absurd rfl (ho' _)
  rw [this]
  match cs,hl with
  | [y],_ => exact A.cells_one (hn y (List.mem_singleton.2 rfl))
theorem CellOk.nagg {q c : Nat} {v : Value} {x : A} (h : CellOk φ E r w q c v x) (l : List A) : x ≠ .agg l := by
 cases h with
 | data _ h ha => exact ha l
 | any => exact fun e => by cases e
 | view => exact fun e => by cases e
theorem SimE.noRef_lt (h : SimE φ w0 L E st ev w) {d : Nat} (hd : d < 1000) : ∀ p' R',st.r p' = some R' → R'.b = true → ∀ x ∈ R'.xs,∀ y ∈ x.cells,refs1 d y = false := fun p' R' hp hb x hx y hy => by
 cases hr : refs1 d y with
 | false => rfl
 | true =>
   obtain ⟨c,_,e,_⟩ := h.cell_ref hp hb hx hy hr
   have := sub_ge p' c
   omega
theorem SimE.box (h : SimE φ w0 L E st ev w) {d z b o : Nat} {x : A} {vs : List Value} (hd : d < 1000) (hpl : ∀ p',L.pl d = some p' → p' = (b,o)) (hF : Fresh w0 L E st ev w b) (hz : x.cells.length = z) (hl : vs.length = x.cells.length)
 (hcells : ∀ (c : Nat) (v : Value) (a : A),vs[c]? = some v → x.cells[c]? = some a → CellOk φ E st.r w d c v a) (hv : Cells w b o vs) (hr : Room w b (o + z)) :
 SimE φ w0 L ⟨E.ok,fun i => if i = d then some (b,o) else E.ρ i⟩ ((st.kill d).setRoot d (some ⟨true,z,[x]⟩)) ev w := by
 have h1 := (h.kill d).unroot d
 rw [← setRoot_twice]
 refine h1.root (p := some (b,o)) (by simp [St.setRoot]) (fun i => refs_kill d _) (h1.noRef_lt hd) (fun b' o' e => ?_) (fun p' e => by rw [hpl p' e]) ?_
 ·cases e
  refine ⟨hF.z,fun q' b' o' a1 a2 => hF.r q' b' o' ?_ a2,fun i k b' a1 => hF.t i k b' (Tk.comps (fd_kill d) a1).1⟩
  simp only [St.setRoot] at a1
  split at a1
  ·cases a1
  ·exact a1
 ·refine .box b o z x vs (by simp) hz hd hl (fun c v a h2 h3 => ?_) hv hr
  cases hcells c v a h2 h3 with
  | data _ h ha => exact .data _ _ h ha
  | any h => exact .any _ h
  | view off n hc h hv =>
    have hne : sub d c ≠ d := by have := sub_ge d c; omega
    refine .view _ _ _ hc (h.weakView fun R hR => ⟨?_,if_neg hne⟩) hv
    simpa [St.setRoot,St.kill,St.map,hne] using hR
theorem loc_new (h : Sim φ w0 L E st a w) {d b : Nat} {R : Root} (hR : st.r d = some R) (hρ : E.ρ d = some (b,0)) (hd : d < a.tmps.size) :
 Sim φ w0 L E (st.put (some d) (.loc d 0 0)) (a.put (some d) (.pointer (some ⟨b,0,none⟩))) w := by
 have hrv : RV1 φ E st.r w (.pointer (some ⟨b,0,none⟩)) (.loc d 0 0) := by
  have := RV1.loc (φ := φ) (E := E) (r := st.r) (w := w) b 0 d 0 0 R hR hρ
  simpa using this
 exact h.put hd (.one _ _ hrv) ((Copy.scalar noTk_loc).tok h)
section
variable {o : Oper} {next : Act → World → Prop} {Q : Exit → Act → World → Prop} {cf : CF} {io : Nat → List Bool}
theorem w_asg (h : Sim φ w0 L E st a w) {y : Operand} {y' : Opd} (ho : o.op = .assign y) (hc : chkOpd φ y y' = true) (hd : ∀ i,o.dst = some i → i < a.tmps.size) (hdl : ∀ i,o.dst = some i → L.pl i = none) (he : stepW cf io o.dst st (.asg y') = some st')
 (hn : ∀ E' v w',Sim φ w0 L E' st' (a.put o.dst v) w' → next (a.put o.dst v) w') : o.wp P a w next Q := by
 have hy := opd_ok h hc
 have hrun : (execOp a.eval o).run P w = .ok (.value (a.eval y)) w := by simp [execOp,ho]
 unfold Oper.wp
 rw [hrun,Oper.upon_value]
 simp only [stepW] at he
 split at he
 ·rename_i d k z xs e1 e2
  split at he
  ·rename_i hlt
   simp only [Option.some.injEq] at he; subst he
   rw [e1] at hn ⊢
   rw [e2] at hy
   obtain ⟨E1,h1,_,h2⟩ := h.toSimE.rootTok (q := d) hy.1.tok_inv (fun b ht => hy.2 k b (.one _ _ _ _ ht)) (hdl d e1) (h.noRef_lt hlt)
   have h3 : Sim φ w0 L E1 (((st.killTok k).kill d).setRoot d (some ⟨false,z,xs⟩)) a w := ⟨h1,h.nodef⟩
   exact hn E1 _ w (h3.put (hd d e1) (.one _ _ h2) ((Copy.scalar noTk_view).tok h3))
  ·cases he
 ·rename_i d z e1 e2
  split at he
  ·rename_i hlt
   simp only [Option.some.injEq] at he; subst he
   rw [e1] at hn ⊢
   rw [e2] at hy
   rw [hy.1.nils_inv]
   have h1 := (h.toSimE.kill d).unroot d
   have h2 := h1.root (p := none) (R := ⟨false,z,[]⟩) (by simp [St.setRoot]) (fun i => refs_kill d _) (h1.noRef_lt hlt) (fun _ _ e => by cases e) (fun p' e => by rw [hdl d e1] at e; cases e) (.empty z (by simp))
   rw [setRoot_twice] at h2
   have h3 : Sim φ w0 L _ ((st.kill d).setRoot d (some ⟨false,z,[]⟩)) a w := ⟨h2,h.nodef⟩
   exact hn _ _ w (h3.put (hd d e1) (.one _ _ (.viewE none d 0 ⟨false,z,[]⟩ (by simp [St.setRoot]) rfl (Nat.zero_le _))) ((Copy.scalar noTk_view).tok h3))
  ·cases he
 ·simp only [Option.some.injEq] at he; subst he
  exact hn E _ w (h.put' hd hy.1 (hy.2.tok h))
theorem fresh_new (h : SimE φ w0 L E st ev w) {C : Array Value} {e : TypeId} (hh : w'.heap = w.heap.push (.cells C e)) : Fresh w0 L E st ev w' w.heap.size :=
 ⟨⟨fun hk => Nat.lt_irrefl _ (h.okz _ hk),.inl h.grow,by rw [hh]; simp⟩,fun q b' o a1 a2 e => by have := (h.rz q b' o a1 a2).2.2; omega,fun i k b' a1 e => by have := (h.tz i k b' a1).1.2.2; omega⟩
theorem w_alloc (h : Sim φ w0 L E st a w) {t : TypeId} {z : Nat} {zero : A} (ho : o.op = .alloc t) (hc : chkZ P t z zero = true) (hd : ∀ i,o.dst = some i → i < a.tmps.size) (hdl : ∀ i,o.dst = some i → L.pl i = none) (he : stepW cf io o.dst st (.alloc z zero) = some st')
 (hn : ∀ E' v w',Sim φ w0 L E' st' (a.put o.dst v) w' → next (a.put o.dst v) w') : o.wp P a w next Q := by
 simp only [stepW] at he
 split at he
 ·rename_i d e1
  split at he
  ·rename_i hcond
   obtain ⟨hzl,hlt,hp⟩ := hcond
   simp only [Option.some.injEq] at he; subst he
   obtain ⟨i,v,hi,hs,hzero,hcs,hvz⟩ := chkZ_spec hc
   have hrun : (execOp a.eval o).run P w = .ok (.value (.pointer (some ⟨w.heap.size,0,none⟩))) (w.alloc (.cells v.cells t)) := by
    simp [execOp,ho,Instr.alloc,zeroValue,typeInfo,hi,hzero,newVar,newRow]
   unfold Oper.wp
   rw [hrun,Oper.upon_value,e1]
   have hh : (w.alloc (.cells v.cells t)).heap = w.heap.push (.cells v.cells t) := rfl
   have hext := ext_push hh ⟨rfl,rfl⟩
   have h1 := h.toSimE.ext hext (.refl E w _)
   have hreps : Reps φ (w.alloc (.cells v.cells t)) E.ok v.cells.toList zero.cells := chkCs_reps hcs
   have h2 := h1.box (d := d) (z := z) (o := 0) (x := zero) (vs := v.cells.toList) hlt (fun p' e => by rw [hdl d e1] at e; cases e) (fresh_new h.toSimE hh) hzl hreps.length (fun c u x hu hx => by
    obtain ⟨u',hu',hr⟩ := hreps.get hx
    rw [hu] at hu'; cases hu'
    exact .data _ _ hr (pureC_nagg (List.all_eq_true.1 hp x (List.mem_of_getElem? hx)))) (cells_push hh) ((room_push hh).le (by omega))
   rw [e1] at hn
   exact hn _ _ _ (loc_new ⟨h2,h.nodef⟩ (R := ⟨true,z,[zero]⟩) (by simp [St.setRoot]) (by simp) (hd d e1))
  ·cases he
 ·cases he
theorem w_box (h : Sim φ w0 L E st a w) {t : TypeId} {z : Nat} {y : Operand} {y' : Opd} (ho : o.op = .box t y) (hc : chkOpd φ y y' = true) (hd : ∀ i,o.dst = some i → i < a.tmps.size) (hdl : ∀ i,o.dst = some i → L.pl i = none) (he : stepW cf io o.dst st (.box z y') = some st')
 (hn : ∀ E' v w',Sim φ w0 L E' st' (a.put o.dst v) w' → next (a.put o.dst v) w') : o.wp P a w next Q := by
 simp only [stepW] at he
 split at he
 ·rename_i d e1
  split at he
  ·rename_i hcond
   obtain ⟨hlt,hz1000,hzl,hsol⟩ := hcond
   obtain ⟨⟨cs,st1⟩,ha,he⟩ := Option.map_eq_some_iff.1 he
   subst he
   have hrun : (execOp a.eval o).run P w = .ok (.value (.pointer (some ⟨w.heap.size,0,none⟩))) (w.alloc (.cells (a.eval y).cells t)) := by
    simp [execOp,ho,Instr.box,newVar,newRow]
   unfold Oper.wp
   rw [hrun,Oper.upon_value,e1]
   rw [e1] at hn
   have hy := opd_ok h hc
   have hsz : (a.eval y).cells.size = z := by
    have := (solid_cells (a := a) hy.1 hy.2 hsol).1
    simp at this; omega
   have hh : (w.alloc (.cells (a.eval y).cells t)).heap = w.heap.push (.cells (a.eval y).cells t) := rfl
   have hext := ext_push hh ⟨rfl,rfl⟩
   have h1 := ((h.toSimE.putG hy.1 hy.2 gs).kill d).unroot d
   obtain ⟨E1,h2,hst,hl,hall⟩ := h1.absorbs ha (by omega) (fun c' a1 a2 p' R' hp hb x hx y hy => by
    cases hr : refs1 (sub d c') y with
    | false => rfl
    | true =>
      obtain ⟨c2,hc2,e2,_⟩ := h1.cell_ref hp hb hx hy hr
      have e3 := (sub_inj (by omega) hc2 e2).1
      simp [St.setRoot,← e3] at hp)
   have h3 := (h2.dropG).ext hext (.refl E1 w _)
   have hcell : ∀ (c : Nat) (u : Value) (x : A),(a.eval y).cells.toList[c]? = some u → cs[c]? = some x → CellOk φ E1 (st1.put' gs .any).r (w.alloc (.cells (a.eval y).cells t)) d c u x := fun c u x hu hx => by
    obtain ⟨u',hu',hcl⟩ := hall c x hx
    simp only [evG,if_true,Nat.zero_add] at hu'
    have : u' = u := by
     have h5 : (a.eval y).cells.toList[c]? = (a.eval y).cells[c]? := by simp
     rw [h5,hu'] at hu; exact Option.some.inj hu
    subst this
    simp only [Nat.zero_add] at hcl
    exact hcl.ext hext.same (fun _ h => h) rfl h2.okz
   have hna : ∀ x ∈ cs,∀ l,x ≠ .agg l := fun x hx => by
    obtain ⟨c,hc⟩ := List.mem_iff_getElem?.1 hx
    obtain ⟨u',hu',hcl⟩ := hall c x hc
    exact hcl.nagg
   have hrc : (reCell (y'.v st) cs).cells = cs := reCell_cells (by rw [hl,hzl]) hna
   have h4 := h3.box (d := d) (z := z) (o := 0) (x := reCell (y'.v st) cs) (vs := (a.eval y).cells.toList) hlt (fun p' e => by rw [hdl d e1] at e; cases e) (fresh_new h2.dropG hh) (by rw [hrc,hl]) (by rw [hrc,hl]; simpa using hsz)
    (fun c u x hu hx => hcell c u x hu (by rw [hrc] at hx; exact hx)) (cells_push hh) ((room_push hh).le (by omega))
   exact hn _ _ _ (loc_new ⟨h4,h.nodef⟩ (R := ⟨true,z,[reCell (y'.v st) cs]⟩) (by simp [St.setRoot]) (by simp) (hd d e1))
  ·cases he
 ·cases he
end
end
end Go.Ab
namespace Go.Ab
section
variable {P : Program} {φ : Nat → Nat} {w0 : World} {L : Lent} {E E' : Env} {st st' : St} {ev ev' : Nat → Value} {w w' : World} {r r' : Nat → Option Root} {a : Act}
theorem CellOk.one {q c : Nat} {v : Value} {x : A} (h : CellOk φ E r w q c v x) : (∀ cs,v ≠ .agg cs) ∧ (∀ vs,v ≠ .tuple vs) := by
 cases h with
 | data _ h ha => exact h.oneCell ha
 | any h => exact h
 | view _ _ _ _ h => exact h
theorem mid_get {α : Type} {l m k : List α} {j : Nat} : (l ++ m ++ k)[j]? = if j < l.length then l[j]? else if j < l.length + m.length then m[j - l.length]? else k[j - (l.length + m.length)]? := by
 rw [List.append_assoc]
 split
 ·rename_i h; rw [List.getElem?_append_left h]
 ·rename_i h
  rw [List.getElem?_append_right (by omega)]
  split
  ·rename_i h2; rw [List.getElem?_append_left (by omega)]
  ·rename_i h2
   rw [List.getElem?_append_right (by omega)]
   congr 1; omega
theorem blank_cells {e : A} {c n : Nat} (hn : ∀ y ∈ e.cells,∀ l,y ≠ .agg l) (hc : c + n ≤ e.cells.length) : (blank e c n).cells = e.cells.take c ++ List.replicate n .any ++ e.cells.drop (c + n) := by
 refine reCell_cells (by simp; omega) fun y hy l => ?_
 rcases List.mem_append.1 hy with hy | hy
 ·rcases List.mem_append.1 hy with hy | hy
  ·exact hn y (List.mem_of_mem_take hy) l
  ·rw [List.eq_of_mem_replicate hy]; exact fun e => by cases e
 ·exact hn y (List.mem_of_mem_drop hy) l
theorem SimE.reroot (h : SimE φ w0 L E st ev w) {q b o : Nat} {R R' : Root} (hR : st.r q = some R) (hρ : E.ρ q = some (b,o)) (hs : R'.b = R.b ∧ R'.z = R.z ∧ R'.xs.length = R.xs.length)
 (hok : RootOk φ E (st.setRoot q (some R')).r w q R') : SimE φ w0 L E (st.setRoot q (some R')) ev w := by
 have hq := h.rz q b o (by rw [hR]; rfl) hρ
 have W : Wr w0 L E st.r (st.setRoot q (some R')).r w w b := ⟨fun _ _ => rfl,rfl,⟨rfl,rfl⟩,fun _ => rfl,fun _ h => h,hq.1,hq.2.1,fun p R1 hp => by
  by_cases e : p = q
  ·subst e
   simp [St.setRoot] at hp; subst hp
   exact ⟨R,hR,hs⟩
  ·simp [St.setRoot,e] at hp
   exact ⟨R1,hp,rfl,rfl,rfl⟩⟩
 refine h.write W (fun i k ht => (h.tz i k b ht).2 q b o (by rw [hR]; rfl) hρ rfl) fun p R1 hp => ?_
 by_cases e : p = q
 ·subst e
  simp [St.setRoot] at hp; subst hp
  exact .inr hok
 ·simp [St.setRoot,e] at hp
  exact .inl ⟨hp,fun o' hρ' => h.inj p q b o' b o (by rw [hp]; rfl) (by rw [hR]; rfl) hρ' hρ e rfl⟩
theorem SimE.writeRoot (h : SimE φ w0 L E st ev w) {q b o o' : Nat} {R R' : Root} {news : List Value} (hR : st.r q = some R) (hρ : E.ρ q = some (b,o)) (hs : R'.b = R.b ∧ R'.z = R.z ∧ R'.xs.length = R.xs.length)
 (hok : Wr w0 L E st.r (st.setRoot q (some R')).r w (w.setCells b o' news) b → RootOk φ E (st.setRoot q (some R')).r (w.setCells b o' news) q R') : SimE φ w0 L E (st.setRoot q (some R')) ev (w.setCells b o' news) := by
 have hq := h.rz q b o (by rw [hR]; rfl) hρ
 have W : Wr w0 L E st.r (st.setRoot q (some R')).r w (w.setCells b o' news) b := Wr.cells hq.1 hq.2.1 fun p R1 hp => by
  by_cases e : p = q
  ·subst e
   simp [St.setRoot] at hp; subst hp
   exact ⟨R,hR,hs⟩
  ·simp [St.setRoot,e] at hp
   exact ⟨R1,hp,rfl,rfl,rfl⟩
 refine h.write W (fun i k ht => (h.tz i k b ht).2 q b o (by rw [hR]; rfl) hρ rfl) fun p R1 hp => ?_
 by_cases e : p = q
 ·subst e
  simp [St.setRoot] at hp; subst hp
  exact .inr (hok W)
 ·simp [St.setRoot,e] at hp
  exact .inl ⟨hp,fun o' hρ' => h.inj p q b o' b o (by rw [hp]; rfl) (by rw [hR]; rfl) hρ' hρ e rfl⟩
theorem flat_cell {xs : List A} {z : Nat} (hz : ∀ x ∈ xs,x.cells.length = z) {i c : Nat} {e e' : A} {V : List A} (he : xs[i]? = some e) (hc : c + V.length ≤ z) (he' : e'.cells = e.cells.take c ++ V ++ e.cells.drop (c + V.length)) :
 (xs.set i e').flatMap A.cells = (xs.flatMap A.cells).take (i * z + c) ++ V ++ (xs.flatMap A.cells).drop (i * z + c + V.length) := by
 have hi : i < xs.length := by
  rcases Nat.lt_or_ge i xs.length with h | h
  ·exact h
  ·simp [List.getElem?_eq_none h] at he
 have hez : e.cells.length = z := hz e (List.mem_of_getElem? he)
 have hez' : e'.cells.length = z := by rw [he']; simp; omega
 have hat := flat_at hz he
 rw [hez] at hat
 rw [flat_set hz hez' hi,he']
 generalize xs.flatMap A.cells = F at hat ⊢
 have hln : ((F.drop (i * z)).take z).length = z := by rw [← hat]; exact hez
 rw [hat]
 have h1 : ((F.drop (i * z)).take z).take c = (F.drop (i * z)).take c := by rw [List.take_take]; congr 1; omega
 have h2 : ((F.drop (i * z)).take z).drop (c + V.length) ++ F.drop (i * z + z) = F.drop (i * z + c + V.length) := by
  rw [← List.drop_drop (i := z) (j := i * z),← List.drop_append_of_le_length (by rw [hln]; exact hc),List.take_append_drop,List.drop_drop,Nat.add_assoc]
 rw [h1,List.take_add]
 simp only [List.append_assoc]
 rw [h2]
section
variable {o : Oper} {next : Act → World → Prop} {Q : Exit → Act → World → Prop} {cf : CF} {io : Nat → List Bool}
theorem w_sto (h : Sim φ w0 L E st a w) {t : TypeId} {n : Nat} {y v : Operand} {y' v' : Opd} (ho : o.op = .store t y v) (hc : chkOpd φ y y' = true) (hc2 : chkOpd φ v v' = true) (ht : szIs P t n = true)
 (hd : ∀ i,o.dst = some i → i < a.tmps.size) (he : stepW cf io o.dst st (.sto n y' v') = some st')
 (hn : ∀ E' v w',Sim φ w0 L E' st' (a.put o.dst v) w' → next (a.put o.dst v) w') : o.wp P a w next Q := by
 have hy := opd_ok h hc
 have hv := opd_ok h hc2
 simp only [stepW] at he
 split at he
 ·rename_i hvl
  split at he
  ·rename_i q i c hyv
   rw [hyv] at hy
   obtain ⟨R,hR,he⟩ := Option.bind_eq_some_iff.1 he
   obtain ⟨b,o0,hρ,hye⟩ := hy.1.loc_inv.loc_at hR
   have run : ∀ {m : Nat},(a.eval v).cells.size = n → (∀ u ∈ (a.eval v).cells.toList,u.oneCell' = true) → Room w b m → o0 + i * R.z + c + n ≤ m → (execOp a.eval o).run P w = .ok .skip (w.setCells b (o0 + i * R.z + c) (a.eval v).cells.toList) := by
    intro m h1 h2 h3 h4
    simp only [execOp,ho,Instr.storeAt,Instr.sureAddr,hye,Sem.run_bind,Sem.run_pure,Result.andThen_ok,run_storeVar_cells ht h1 h2 (h3.le h4)]
   split at he
   ·
    rename_i e hb hxs _
    split at he
    ·rename_i hcond
     obtain ⟨hlt,hce,hc1000,hsol⟩ := hcond
     obtain ⟨⟨cs,st1⟩,ha,he⟩ := Option.map_eq_some_iff.1 he
     subst he
     obtain ⟨Rb,Rz,Rxs⟩ := R
     simp only at hb hxs run hR ha hn
     subst hb; subst hxs
     have hsz : (a.eval v).cells.size = n := by
      have := (solid_cells (a := a) hv.1 hv.2 hsol).1
      simp at this; omega
     have hG := h.toSimE.putG hv.1 hv.2 gs
     have hro := hG.roots q _ hR
     have hnag : ∀ y ∈ e.cells,∀ l,y ≠ .agg l := by
      cases hro with
      | box b o z _ vs hρ hz hlt hl hh hv hrm =>
        intro y hy l
        obtain ⟨j,hj⟩ := List.mem_iff_getElem?.1 hy
        have hjl : j < vs.length := by
         rw [hl]; rcases Nat.lt_or_ge j e.cells.length with h' | h'
         ·exact h'
         ·simp [List.getElem?_eq_none h'] at hj
        exact (hh j vs[j] y (by simp) hj).nagg l
     have hbc := blank_cells hnag hce
     have hzl : Rz = e.cells.length := by cases hro with | box b o z x vs hρ hz hlt hl hh hv hrm => exact hz.symm
     have hblen : (blank e c n).cells.length = e.cells.length := by rw [hbc]; simp; omega
     have hB : SimE φ w0 L E ((st.put' gs (v'.v st)).setRoot q (some ⟨true,Rz,[blank e c n]⟩)) (evG (fun i => a.eval (.tmp i)) gs (a.eval v)) w := by
      refine hG.reroot (b := b) (o := o0) hR hρ ⟨rfl,rfl,rfl⟩ ?_
      cases hro with
      | box b1 o1 z x vs hρ1 hz hlt hl hh hv1 hrm =>
        refine .box b1 o1 Rz (blank e c n) vs hρ1 (by rw [hblen]; exact hz) hlt (by rw [hblen]; exact hl) (fun j u x hu hx => ?_) hv1 hrm
        rw [hbc,mid_get] at hx
        have hj : j < e.cells.length := by
         rw [← hl]; rcases Nat.lt_or_ge j vs.length with h' | h'
         ·exact h'
         ·simp [List.getElem?_eq_none h'] at hu
        have old : ∀ {x},e.cells[j]? = some x → CellOk φ E ((st.put' gs (v'.v st)).setRoot q (some ⟨true,Rz,[blank e c n]⟩)).r w q j u x := fun {x} hx => by
         cases hh j u x hu hx with
         | data _ h ha => exact .data _ _ h ha
         | any h => exact .any _ h
         | view off n hc h hv =>
           have hne : sub q j ≠ q := by have := sub_ge q j; omega
           exact .view _ _ _ hc (h.weakView fun R hR => ⟨by simpa [St.setRoot,hne] using hR,rfl⟩) hv
        have hone := (hh j u e.cells[j] hu (by simp)).one
        simp only [List.length_take,List.length_replicate] at hx
        rw [Nat.min_eq_left (by omega)] at hx
        split at hx
        ·rename_i h1
         rw [List.getElem?_take,if_pos h1] at hx
         exact old hx
        ·split at hx
         ·rw [List.getElem?_replicate] at hx
          split at hx
          ·cases hx; exact .any _ hone
          ·cases hx
         ·rw [List.getElem?_drop,show c + n + (j - (c + n)) = j from by omega] at hx
          exact old hx
     obtain ⟨E1,h2,hst,hl,hall⟩ := hB.absorbs ha (by omega) (fun c' a1 a2 p' R' hp hb x hx y hy => by
      cases hr : refs1 (sub q c') y with
      | false => rfl
      | true =>
        obtain ⟨c2,hc2,e2,hx2⟩ := hB.cell_ref hp hb hx hy hr
        obtain ⟨e3,e4⟩ := sub_inj (by omega) hc2 e2
        subst e3; subst e4
        simp [St.setRoot] at hp; subst hp
        rw [List.mem_singleton] at hx; subst hx
        rw [hbc,mid_get] at hx2
        simp only [List.length_take,List.length_replicate] at hx2
        rw [Nat.min_eq_left (by omega),if_neg (by omega),if_pos (by omega),List.getElem?_replicate,if_pos (by omega)] at hx2
        cases hx2; cases hr)
     have hqS : ¬ ∃ c',c + 0 ≤ c' ∧ c' < c + 0 + n ∧ q = sub q c' := fun ⟨c',_,_,e⟩ => by have := sub_ge q c'; omega
     have hq1 : st1.r q = some ⟨true,Rz,[blank e c n]⟩ := hst.b q _ hqS (by simp [St.setRoot]) rfl
     have hρ1 : E1.ρ q = some (b,o0) := (hst.ρ q hqS).trans hρ
     have hone : ∀ u ∈ (a.eval v).cells.toList,u.oneCell' = true := fun u hu => by
      obtain ⟨j,hj⟩ := List.mem_iff_getElem?.1 hu
      have hjl : j < cs.length := by
       rw [hl,← hsz]
       rcases Nat.lt_or_ge j (a.eval v).cells.size with h' | h'
       ·exact h'
       ·simp [h'] at hj
      obtain ⟨u',hu',hcl⟩ := hall j cs[j] (by simp)
      simp only [evG,if_true,Nat.zero_add] at hu'
      have : u' = u := by
       have h5 : (a.eval v).cells.toList[j]? = (a.eval v).cells[j]? := by simp
       rw [h5,hu'] at hj; exact Option.some.inj hj
      subst this
      exact Value.one_cell hcl.one
     have h3 := h2.dropG
     have hro1 := h3.roots q _ hq1
     unfold Oper.wp
     cases hro1 with
     | box b1 o1 z x vs hρ2 hz hlt hl2 hh hv1 hrm =>
       rw [hρ1] at hρ2; cases hρ2
       have hi0 : o0 + 0 * Rz + c = o0 + c := by omega
       rw [run hsz hone hrm (by omega),Oper.upon_skip,hi0]
       have hcc : (reCell e (e.cells.take c ++ cs ++ e.cells.drop (c + n))).cells = e.cells.take c ++ cs ++ e.cells.drop (c + n) := by
        refine reCell_cells (by simp; omega) fun y hy l => ?_
        rcases List.mem_append.1 hy with hy | hy
        ·rcases List.mem_append.1 hy with hy | hy
         ·exact hnag y (List.mem_of_mem_take hy) l
         ·obtain ⟨j,hj⟩ := List.mem_iff_getElem?.1 hy
          obtain ⟨u',hu',hcl⟩ := hall j y hj
          exact hcl.nagg l
        ·exact hnag y (List.mem_of_mem_drop hy) l
       have hnl : (a.eval v).cells.toList.length = n := by simpa using hsz
       have hvl2 : vs.length = e.cells.length := by rw [hl2,hblen]
       have h4 := h3.writeRoot (b := b) (o := o0) (o' := o0 + c) (R' := ⟨true,Rz,[reCell e (e.cells.take c ++ cs ++ e.cells.drop (c + n))]⟩) (news := (a.eval v).cells.toList) hq1 hρ1 ⟨rfl,rfl,rfl⟩ (fun W => by
        have hwr := Cells.write (news := (a.eval v).cells.toList) (c := c) hv1 (by rw [hvl2,← hzl]; exact hrm) (by rw [hnl,hvl2]; exact hce)
        refine .box b o0 Rz _ _ hρ1 (by rw [hcc]; simp; omega) hlt (by rw [hcc]; simp; omega) (fun j u x hu hx => ?_) hwr (W.room _ hrm)
        rw [hcc,mid_get] at hx
        rw [mid_get] at hu
        simp only [List.length_take] at hx hu
        rw [Nat.min_eq_left (by omega)] at hx hu
        rw [hnl] at hu
        rw [hl] at hx
        have old : ∀ {x},vs[j]? = some u → e.cells[j]? = some x → (j < c ∨ c + n ≤ j) → CellOk φ E1 st1.r w q j u x := fun {x} h5 h6 h7 => by
         refine hh j u x h5 ?_
         rw [hbc,mid_get]
         simp only [List.length_take,List.length_replicate]
         rw [Nat.min_eq_left (by omega)]
         rcases h7 with h7 | h7
         ·rw [if_pos h7,List.getElem?_take,if_pos h7]; exact h6
         ·rw [if_neg (by omega),if_neg (by omega),List.getElem?_drop,show c + n + (j - (c + n)) = j from by omega]; exact h6
        split at hx
        ·rename_i h5
         rw [if_pos h5] at hu
         rw [List.getElem?_take,if_pos h5] at hx hu
         exact (old hu hx (.inl h5)).write W
        ·rename_i h5
         rw [if_neg h5] at hu
         split at hx
         ·rename_i h6
          rw [if_pos h6] at hu
          obtain ⟨u',hu',hcl⟩ := hall (j - c) x hx
          simp only [evG,if_true,Nat.zero_add] at hu'
          have : u' = u := by
           have h5 : (a.eval v).cells.toList[j - c]? = (a.eval v).cells[j - c]? := by simp
           rw [h5,hu'] at hu; exact Option.some.inj hu
          subst this
          rw [show c + 0 + (j - c) = j from by omega] at hcl
          exact hcl.write W
         ·rename_i h6
          rw [if_neg h6] at hu
          rw [List.getElem?_drop,show c + n + (j - (c + n)) = j from by omega] at hx hu
          exact (old hu hx (.inr (by omega))).write W)
       have h5 : Sim φ w0 L E1 ((st1.put' gs .any).setRoot q (some ⟨true,Rz,[reCell e (e.cells.take c ++ cs ++ e.cells.drop (c + n))]⟩)) a _ := ⟨h4,h.nodef⟩
       exact hn E1 _ _ (h5.put' hd (.one _ _ (.any _)) ((Copy.scalar noTk_any).tok h5))
    ·cases he
   ·
    rename_i i _ _ _ hb _
    obtain ⟨⟨v0,st1⟩,hp,he⟩ := Option.bind_eq_some_iff.1 he
    simp only at he
    split at he <;> (try (cases he; done))
    rename_i hvn0
    obtain ⟨R1,hR1,he⟩ := Option.bind_eq_some_iff.1 he
    obtain ⟨e,hei,he⟩ := Option.bind_eq_some_iff.1 he
    obtain ⟨cs,hcs,he⟩ := Option.map_eq_some_iff.1 he
    subst he
    obtain ⟨E1,h1,hρe,hst,hrep,hpc⟩ := h.toSimE.pin hv.1 hv.2 hp
    have hRR : R1 = R := by
     rcases hst.r q id with h2 | h2
     ·rw [h2,hR] at hR1; exact (Option.some.inj hR1).symm
     ·rw [h2] at hR1; cases hR1
    subst hRR
    have hρ1 : E1.ρ q = some (b,o0) := by rw [hρe]; exact hρ
    have hro := h1.roots q _ hR1
    unfold setCells at hcs
    split at hcs
    ·rename_i hle
     simp only [Option.some.injEq] at hcs; subst hcs
     unfold Oper.wp
     cases hro with
     | empty z h => simp at hei
     | box => cases hb
     | sl b1 o1 z xs vs hρ2 hz hh hv1 hrm =>
       rw [hρ1] at hρ2; cases hρ2
       simp only at hei run hn
       have hcl := hrep.cells
       have hez : e.cells.length = z := hz e (List.mem_of_getElem? hei)
       have hvn : v0.cells.length = (a.eval v).cells.size := by have := hcl.length; simpa using this.symm
       have hi : i < xs.length := by
        rcases Nat.lt_or_ge i xs.length with h | h
        ·exact h
        ·simp [List.getElem?_eq_none h] at hei
       have hiz : i * z + z ≤ xs.length * z := by
        have := Nat.mul_le_mul_right z (show i + 1 ≤ xs.length from hi)
        rw [Nat.succ_mul] at this; exact this
       have hfl := flat_length hz
       have hvs : vs.length = xs.length * z := by rw [← hfl]; exact hh.length
       have hone : ∀ u ∈ (a.eval v).cells.toList,u.oneCell' = true := fun u hu => by
        obtain ⟨j,hj⟩ := List.mem_iff_getElem?.1 hu
        obtain ⟨x,hx,hr⟩ := hcl.getV hj
        exact Value.one_cell (hr.oneCell (pureC_nagg (List.all_eq_true.1 hpc x (List.mem_of_getElem? hx))))
       have hsz : (a.eval v).cells.size = n := by rw [← hvn]; exact hvn0
       have hnl : (a.eval v).cells.toList.length = n := by simpa using hsz
       rw [run hsz hone hrm (by omega),Oper.upon_skip]
       have hcc : (reCell e (e.cells.take c ++ v0.cells ++ e.cells.drop (c + v0.cells.length))).cells = e.cells.take c ++ v0.cells ++ e.cells.drop (c + v0.cells.length) := by
        by_cases hx : ∃ l,e = .agg l
        ·obtain ⟨l,rfl⟩ := hx; rfl
        ·have hx' : ∀ l,e ≠ .agg l := fun l h => hx ⟨l,h⟩
         refine reCell_cells (by simp; omega) fun y hy l => ?_
         have hec := A.cells_one hx'
         rcases List.mem_append.1 hy with hy | hy
         ·rcases List.mem_append.1 hy with hy | hy
          ·have := List.mem_of_mem_take hy
           rw [hec,List.mem_singleton] at this; subst this; exact hx' l
          ·exact pureC_nagg (List.all_eq_true.1 hpc y hy) l
         ·have := List.mem_of_mem_drop hy
          rw [hec,List.mem_singleton] at this; subst this; exact hx' l
       have hfc := flat_cell hz (e' := reCell e (e.cells.take c ++ v0.cells ++ e.cells.drop (c + v0.cells.length))) hei (by omega) hcc
       have h4 := h1.writeRoot (b := b) (o := o0) (o' := o0 + i * z + c) (R' := ⟨false,z,xs.set i (reCell e (e.cells.take c ++ v0.cells ++ e.cells.drop (c + v0.cells.length)))⟩) (news := (a.eval v).cells.toList) hR1 hρ1 ⟨rfl,rfl,by simp⟩ (fun W => by
        have hwr := Cells.write (news := (a.eval v).cells.toList) (c := i * z + c) hv1 (by rw [hvs]; exact hrm) (by rw [hnl,hvs]; omega)
        rw [← Nat.add_assoc] at hwr
        refine .sl b o0 z _ _ hρ1 (fun x hx => ?_) ?_ hwr (by simpa using W.room _ hrm)
        ·rcases List.mem_or_eq_of_mem_set hx with h' | rfl
         ·exact hz x h'
         ·rw [hcc]; simp; omega
        ·rw [hfc,hnl]
         refine W.reps (((hh.take _).append hcl).append ?_)
         rw [show i * z + c + v0.cells.length = i * z + c + n from by omega]
         exact hh.drop _)
       have h5 : Sim φ w0 L E1 (st1.setRoot q (some ⟨false,z,xs.set i (reCell e (e.cells.take c ++ v0.cells ++ e.cells.drop (c + v0.cells.length)))⟩)) a _ := ⟨h4,h.nodef⟩
       exact hn E1 _ _ (h5.put' hd (.one _ _ (.any _)) ((Copy.scalar noTk_any).tok h5))
    ·cases hcs
   ·cases he
  ·cases he
 ·cases he
end
end
end Go.Ab
namespace Go.Ab
section
variable {P : Program} {φ : Nat → Nat} {w0 : World} {L : Lent} {E E' : Env} {st st' : St} {ev ev' : Nat → Value} {w w' : World} {r r' : Nat → Option Root} {a : Act}
theorem noAgg_spec {x : A} (h : noAgg x = true) (l : List A) : x ≠ .agg l := by rintro rfl; simp [noAgg] at h
theorem src_ok {z : Nat} {tx e' : TypeId} (hk : P.underlying tx = some (.slice e')) {u : Value} {ys : List A} {ad : Option Addr} {cap : Nat} (hu : u = .slice ad ys.length cap)
 (hc : ys = [] ∨ ∃ b o vs,ad = some ⟨b,o,none⟩ ∧ Reps φ w E.ok vs (ys.flatMap A.cells) ∧ Cells w b o vs ∧ ∀ y ∈ ys,y.cells.length = z) (hf : ys.all flatC = true) :
 ∃ news,Src P z tx u ys.length news w ∧ Reps φ w E.ok news (ys.flatMap A.cells) ∧ ∀ y ∈ ys,y.cells.length = z := by
 subst hu
 rcases hc with rfl | ⟨b,o,vs,rfl,h1,h2,h3⟩
 ·refine ⟨[],?_,.nil,fun y hy => by cases hy⟩
  cases ad with
  | none => exact Src.ofNil w hk cap
  | some ad => exact Src.ofSlice w hk ad 0 cap [] (by simp) (fun j u h => by simp at h) (fun u h => by cases h)
 ·have hl := h1.length
  rw [flat_length h3] at hl
  refine ⟨vs,Src.ofSlice w hk ⟨b,o,none⟩ ys.length cap vs hl (fun j u hj => by rw [World.cell?_add]; exact h2 j u hj) (fun u hu => ?_),h1,h3⟩
  obtain ⟨j,hj⟩ := List.mem_iff_getElem?.1 hu
  obtain ⟨x,hx,hr⟩ := h1.getV hj
  obtain ⟨y,hy,hxy⟩ := List.mem_flatMap.1 (List.mem_of_getElem? hx)
  have := List.all_eq_true.1 hf y hy
  exact Value.one_cell (hr.oneCell (noAgg_spec (List.all_eq_true.1 this x hxy)))
theorem noTk_empty {k z : Nat} {ad : Option Addr} (k' b : Nat) : ¬ Tk (.slice ad 0 0) (.tok k z []) k' b := by
 intro h; cases h with
 | one _ _ _ _ h => cases h; contradiction
theorem app_core (h0 : Sim φ w0 L E st a w) {v u : Value} {z : Nat} {xs ys : List A} {ob : Option Nat} (hO : OwnRep φ w E.ok v z xs ob) (hF : ∀ b,ob = some b → Fresh w0 L E st (fun i => a.eval (.tmp i)) w b)
 {t tx ty e e' : TypeId} (ht : P.underlying t = some (.slice e)) (hk : P.underlying tx = some (.slice e')) {i : TypeInfo} (hi : P.info? e = some i) (hz : i.size = z) {zv : Value} (hzv : i.zero = some zv) (hzs : zv.cells.size = z)
 (hb : i.bytes ≤ 128) (hlim : xs.length + ys.length < lim) {ad : Option Addr} {cap : Nat} (hu : u = .slice ad ys.length cap)
 (hc : ys = [] ∨ ∃ b o vs,ad = some ⟨b,o,none⟩ ∧ Reps φ w E.ok vs (ys.flatMap A.cells) ∧ Cells w b o vs ∧ ∀ y ∈ ys,y.cells.length = z) (hf : ys.all flatC = true) (k : Nat) :
 ∃ v' w',(Builtin.append_ #[t,tx] ty #[v,u]).run P w = .ok v' w' ∧ Sim φ w0 L E st a w' ∧ RV φ E st.r w' v' (.tok k z (xs ++ ys)) ∧ TokOk w0 L E st a w' v' (.tok k z (xs ++ ys)) := by
 obtain ⟨news,hs,hnr,hyz⟩ := src_ok (z := z) hk hu hc hf
 have hlim' : xs.length + ys.length < 1099511627776 := by simpa [lim] using hlim
 have hfit : ∀ c,c < xs.length + ys.length → Builtin.nextslicecap (xs.length + ys.length) c * i.bytes ≤ 281474976710656 := fun c hc =>
  growslice_fits hc (by have := Nat.mul_le_mul (show xs.length + ys.length ≤ 1099511627776 by omega) hb; omega)
 have hnl : news.length = ys.length * z := by have := hnr.length; rwa [flat_length hyz] at this
 have grow : ∀ {base : Option Addr} {c : Nat} {olds : List Value},v = .slice base xs.length c → c < xs.length + ys.length → (Builtin.firstCells i.size xs.length (.slice base xs.length c)).run P w.drew = .ok olds.toArray w.drew →
  Reps φ w E.ok olds (xs.flatMap A.cells) → (∀ y ∈ xs,y.cells.length = z) →
  ∃ v' w',(Builtin.append_ #[t,tx] ty #[v,u]).run P w = .ok v' w' ∧ Sim φ w0 L E st a w' ∧ RV φ E st.r w' v' (.tok k z (xs ++ ys)) ∧ TokOk w0 L E st a w' v' (.tok k z (xs ++ ys)) := by
  intro base c olds hv hlt hold hor hxz
  subst hv; subst hz
  have hrun := run_append_grow_src (P := P) w t tx ty e i zv ht hi hzv base xs.length c olds hold u ys.length news hs hlt (by omega) (hfit c hlt)
  have hol : olds.length = xs.length * i.size := by have := hor.length; rwa [flat_length hxz] at this
  have hge := grownCap_ge w (xs.length + ys.length) c e
  have hh : (w.drew.alloc (.cells ((olds ++ news).toArray ++ Builtin.zeroCells zv.cells (grownCap w (xs.length + ys.length) c e - (xs.length + ys.length))) e)).heap =
   w.heap.push (.cells ((olds ++ news).toArray ++ Builtin.zeroCells zv.cells (grownCap w (xs.length + ys.length) c e - (xs.length + ys.length))) e) := rfl
  have hcp := cells_push hh
  have htl : ((olds ++ news).toArray ++ Builtin.zeroCells zv.cells (grownCap w (xs.length + ys.length) c e - (xs.length + ys.length))).toList = (olds ++ news) ++ (Builtin.zeroCells zv.cells (grownCap w (xs.length + ys.length) c e - (xs.length + ys.length))).toList := by simp
  rw [htl] at hcp
  have hnt := new_tok (k := k) (z := i.size) (cap := grownCap w (xs.length + ys.length) c e) (xs := xs ++ ys) h0 hh ⟨rfl,rfl⟩ (fun y hy => (List.mem_append.1 hy).elim (hxz y) (hyz y))
   (by rw [List.flatMap_append]; exact hor.append hnr) hcp.left (by simpa using hge) (by
     simp only [Array.size_append,List.size_toArray,List.length_append,size_zeroCells,hzs,hol,hnl]
     rw [← Nat.add_mul,← Nat.add_mul]
     exact Nat.mul_le_mul_right _ (by omega))
  rw [List.length_append] at hnt
  exact ⟨_,_,hrun,h0.ext (ext_push hh ⟨rfl,rfl⟩) (.refl E w _),hnt.1,hnt.2⟩
 cases hO with
 | empty ad0 z =>
   by_cases hy0 : ys = []
   ·subst hy0
    have hn0 : news = [] := List.eq_nil_of_length_eq_zero (by simpa using hnl)
    subst hn0
    refine ⟨.slice ad0 0 0,w,?_,h0,.one _ _ (.tokE _ _ _),⟨fun k b h => (noTk_empty _ _ h).elim,fun i k k' b b' h => (noTk_empty _ _ h).elim,fun k k' b b' h => (noTk_empty _ _ h).elim⟩⟩
    have hsc : ∀ A : Addr,(storeCells A ([] : List Value)).run P w = .ok () w := fun A => rfl
    have hcs : (Builtin.firstCells i.size 0 u).run P w = .ok #[] w := by rw [hz]; exact hs.cells
    have hln := hs.len
    rcases hs.kind with ⟨e2,hk2⟩ | hk2 <;> cases ad0 <;>
     simp [Builtin.append_,run_underlying ht,run_underlying hk2,sizeOf,typeInfo,hi,hln,hcs,hsc]
   ·refine grow rfl (by have := List.length_pos_iff.2 hy0; simp; omega) ?_ .nil (fun y hy => by cases hy)
    cases ad0 with
    | none => exact run_firstCells_none w.drew i.size 0 0 0
    | some ad0 => exact run_firstCells_some w.drew i.size 0 ad0 0 0 [] (by simp) (fun j u h => by simp at h)
 | mk b o c z xs vs hcap hc0 hxz hxr hxv hrm =>
   have hvl : vs.length = xs.length * z := by have := hxr.length; rwa [flat_length hxz] at this
   by_cases hroom : xs.length + ys.length ≤ c
   ·have hle : xs.length * z + ys.length * z ≤ c * z := by rw [← Nat.add_mul]; exact Nat.mul_le_mul_right _ hroom
    subst hz
    have hpos : ∀ j,j < news.length → (w.cell? ⟨b,o + xs.length * i.size + j,none⟩).isSome = true ∧ w.frozen? ⟨b,o + xs.length * i.size + j,none⟩ = false := fun j hj => hrm.cell (by omega)
    have hrun := run_append_room_src (P := P) w t tx ty e i ht hi b o xs.length c u ys.length news hs hroom (fun j hj => (hpos j hj).1) (fun j hj => (hpos j hj).2)
    have hFb := hF b rfl
    have W : Wr w0 L E st.r st.r w (w.setCells b (o + xs.length * i.size) news) b := Wr.cells hFb.z.1 hFb.z.2.1 fun q R' h => ⟨R',h,rfl,rfl,rfl⟩
    have h1 := h0.toSimE.write W (fun i k ht => hFb.t i k b ht rfl) fun q R' hq => .inl ⟨hq,fun o' hρ => hFb.r q b o' (by rw [hq]; rfl) hρ rfl⟩
    have hsz := W.size
    have hcells : Cells (w.setCells b (o + xs.length * i.size) news) b o (vs ++ news) := by
     refine Cells.append (fun j v hj => ?_) (fun j v hj => ?_)
     ·have hjl : j < vs.length := by
       rcases Nat.lt_or_ge j vs.length with h | h
       ·exact h
       ·simp [List.getElem?_eq_none h] at hj
      rw [World.cell?_setCells_out b news _ w ⟨b,o + j,none⟩ (fun _ _ => .inl (by simp; omega))]
      exact hxv j v hj
     ·have hjl : j < news.length := by
       rcases Nat.lt_or_ge j news.length with h | h
       ·exact h
       ·simp [List.getElem?_eq_none h] at hj
      rw [hvl,World.cell?_setCells_in b news (o + xs.length * i.size) w (fun j hj => (hpos j hj).1) j hjl,← hj]
      simp
    have hrv := RV1.tok (φ := φ) (E := E) (r := st.r) (w := w.setCells b (o + xs.length * i.size) news) b o c k i.size (xs ++ ys) (vs ++ news) (by simpa using hroom) hc0
     (fun y hy => (List.mem_append.1 hy).elim (hxz y) (hyz y)) (by rw [List.flatMap_append]; exact W.reps (hxr.append hnr)) hcells (W.room _ hrm)
    rw [List.length_append] at hrv
    have htb : ∀ k' b',Tk (.slice (some ⟨b,o,none⟩) (xs.length + ys.length) c) (.tok k i.size (xs ++ ys)) k' b' → b' = b ∧ k' = k := by
     intro k' b' h
     cases h with
     | one _ _ _ _ h => cases h; exact ⟨rfl,rfl⟩
    refine ⟨_,_,hrun,⟨h1,h0.nodef⟩,.one _ _ hrv,⟨fun k' b' h => ?_,fun i' k1 k2 b1 b2 h h' _ => ?_,fun k1 k2 b1 b2 h h' hne => ?_⟩⟩
    ·obtain ⟨rfl,_⟩ := htb _ _ h
     exact ⟨⟨hFb.z.1,hFb.z.2.1,by rw [hsz]; exact hFb.z.2.2⟩,hFb.r⟩
    ·obtain ⟨rfl,_⟩ := htb _ _ h
     exact fun e => hFb.t i' k2 b2 h' e.symm
    ·exact absurd ((htb _ _ h).2.trans (htb _ _ h').2.symm) hne
   ·refine grow rfl (by omega) ?_ hxr hxz
    exact run_firstCells_some w.drew i.size xs.length ⟨b,o,none⟩ xs.length c vs (by rw [hvl,hz]) (fun j u hj => by rw [World.cell?_add]; exact hxv j u hj)
section
variable {o : Oper} {next : Act → World → Prop} {Q : Exit → Act → World → Prop} {cf : CF} {io : Nat → List Bool}
theorem w_app (h : Sim φ w0 L E st a w) {s x : Operand} {s' x' : Opd} {t u e e2 : TypeId} {z bytes : Nat} (ho : o.op = .call ⟨.builtin .append,#[s,x],#[t,u]⟩) (hs : chkOpd φ s s' = true) (hx : chkOpd φ x x' = true)
 (ht : P.underlying t = some (.slice e)) (hk : P.underlying u = some (.slice e2)) {i : TypeInfo} (hi : P.info? e = some i) (hz : i.size = z) (hby : i.bytes = bytes) {zv : Value} (hzv : i.zero = some zv) (hzs : zv.cells.size = z)
 (hd : ∀ i,o.dst = some i → i < a.tmps.size) (he : stepW cf io o.dst st (.app z bytes s' x') = some st')
 (hn : ∀ E' v w',Sim φ w0 L E' st' (a.put o.dst v) w' → next (a.put o.dst v) w') : o.wp P a w next Q := by
 have hsv := opd_ok h hs
 have hxv := opd_ok h hx
 simp only [stepW] at he
 split at he
 ·cases he
 ·rename_i d hdst
  obtain ⟨⟨z2,ys⟩,hel,he⟩ := Option.bind_eq_some_iff.1 he
  simp only at he
  obtain ⟨ad,cap,hu,hcap,hcase⟩ := elems_ok h.roots hxv.1 hel
  have fin : ∀ {st0 : St} {xs : List A} {ob : Option Nat},SimE φ w0 L E st0 (fun i => a.eval (.tmp i)) w → OwnRep φ w E.ok (a.eval s) z xs ob → (∀ b,ob = some b → Fresh w0 L E st0 (fun i => a.eval (.tmp i)) w b) →
   z2 = z → xs.length + ys.length < lim → bytes ≤ 128 → ys.all flatC = true → st' = st0.put (some d) (.tok (8 * d) z (xs ++ ys)) → o.wp P a w next Q := by
   intro st0 xs ob h0 hO hF hz2 hl hb hf hst
   subst hz2
   obtain ⟨v',w',hrun,h1,h2,h3⟩ := app_core (ty := o.type) ⟨h0,h.nodef⟩ hO hF ht hk hi hz hzv hzs (by rw [hby]; exact hb) hl hu hcase hf (8 * d)
   have hex : (execOp a.eval o).run P w = .ok (.value v') w' := by
    simp [execOp,ho,resolve,invoke,builtin,hrun]
   unfold Oper.wp
   rw [hex,Oper.upon_value]
   refine hn E v' w' ?_
   rw [hst,hdst]
   exact h1.put (hd d hdst) h2 h3
  split at he
  ·rename_i k z1 xs e1
   split at he
   ·rename_i hcond
    obtain ⟨hz1,hz2,hl,hb,hf⟩ := hcond
    simp only [Option.some.injEq] at he
    rw [e1] at hsv
    subst hz1
    have hkt := h.toSimE.killTok k
    obtain ⟨hsv1,hsv2⟩ := hsv
    generalize hev : a.eval s = sv at hsv1 hsv2
    cases hsv1.tok_inv with
    | data _ _ h => cases h
    | tokE ad0 => exact fin hkt (by rw [hev]; exact .empty ad0 z1) (fun b e => by cases e) hz2 hl hb hf he.symm
    | tok b o0 c k z1 xs vs hcc h0 hzz hh hv' hrm =>
      obtain ⟨i0,hi0⟩ := hsv2 k b (.one _ _ _ _ (.mk ⟨b,o0,none⟩ _ _ _ _ _ h0))
      have hf0 := h.tz i0 k b hi0
      refine fin hkt (by rw [hev]; exact .mk b o0 c z1 xs vs hcc h0 hzz hh hv' hrm) (fun b' e => ?_) hz2 hl hb hf he.symm
      cases e
      refine ⟨hf0.1,hf0.2,fun i' k' b' a1 => ?_⟩
      have h3 := Tk.comps (fd_killTok k) a1
      exact h.td i' i0 k' k b' b h3.1 hi0 h3.2
   ·cases he
  ·rename_i z1 e1
   split at he
   ·rename_i hcond
    obtain ⟨hz1,hz2,hl,hb,hf⟩ := hcond
    simp only [Option.some.injEq] at he
    rw [e1] at hsv
    exact fin h.toSimE (xs := []) (by rw [hsv.1.nils_inv]; exact .empty none z) (fun b e => by cases e) hz2 (by simpa using hl) hb hf he.symm
   ·cases he
  ·rename_i q off n e1
   obtain ⟨R,hR,he⟩ := Option.bind_eq_some_iff.1 he
   split at he
   ·rename_i hcond
    obtain ⟨hz1,hz2,hl,hb,hf⟩ := hcond
    simp only [Option.some.injEq] at he
    rw [e1] at hsv
    subst hz1
    have hkq := (h.toSimE.kill q).unroot q
    obtain ⟨hsv1,hsv2⟩ := hsv
    generalize hev : a.eval s = sv at hsv1 hsv2
    cases hsv1.view_inv with
    | data _ _ h => cases h
    | viewN _ _ _ _ h1 => rw [h1] at hR; cases hR
    | viewE ad0 q off R' h1 hb' hn' =>
      rw [List.take_zero] at he
      exact fin hkq (xs := []) (by rw [hev]; exact .empty ad0 _) (fun b e => by cases e) hz2 (by simpa using hl) hb hf he.symm
    | view b o0 c q off n R' h1 hb' hn' hcc h0 hρ hrm =>
      rw [h1] at hR; cases hR
      have hlen : ((R.xs.drop off).take n).length = n := by simp; omega
      have hf0 := h.rz q b o0 (by rw [h1]; rfl) hρ
      have hfr : Fresh w0 L E ((st.kill q).setRoot q none) (fun i => a.eval (.tmp i)) w b := by
       refine ⟨hf0,fun q' b' o' a1 a2 => ?_,fun i k b' a1 => ?_⟩
       ·simp only [St.setRoot] at a1
        split at a1
        ·cases a1
        ·rename_i hne
         exact h.inj q' q b' o' b o0 a1 (by rw [h1]; rfl) a2 hρ hne
       ·have h3 := Tk.comps (fd_kill q) a1
        exact fun e => (h.tz i k b' h3.1).2 q b o0 (by rw [h1]; rfl) hρ e.symm
      have hO : OwnRep φ w E.ok (a.eval s) R.z ((R.xs.drop off).take n) (some b) := by
       cases h.roots q R h1 with
       | empty z hh =>
         rw [hh] at hρ; cases hρ
       | box => cases hb'
       | sl b1 o1 z xs vs hρ1 hzz hh hv' hrm' =>
         rw [hρ] at hρ1; cases hρ1
         have := OwnRep.mk (φ := φ) (w := w) (K := E.ok) b (o0 + off * z) c z ((xs.drop off).take n) ((vs.drop (off * z)).take (n * z)) (by simp only at hlen; rw [hlen]; exact hcc) h0
          (fun y hy => hzz y (List.mem_of_mem_drop (List.mem_of_mem_take hy))) (by
            rw [flat_take (fun x hx => hzz x (List.mem_of_mem_drop hx)),flat_drop hzz]
            exact (hh.drop _).take _) ((hv'.drop _).take _) (by rw [Nat.add_mul,← Nat.add_assoc] at hrm; exact hrm)
         simp only at hlen
         rw [hlen] at this
         rw [hev]
         exact this
      exact fin hkq hO (fun b' e => by cases e; exact hfr) hz2 (by rw [hlen]; exact hl) hb hf he.symm
   ·cases he
  ·cases he
end
end
end Go.Ab
namespace Go.Ab
section
variable {P : Program} {φ : Nat → Nat} {w0 : World} {L : Lent} {E E' : Env} {st st' : St} {ev ev' : Nat → Value} {w w' : World} {r r' : Nat → Option Root} {a : Act}
variable {o : Oper} {next : Act → World → Prop} {Q : Exit → Act → World → Prop} {cf : CF} {io : Nat → List Bool}
theorem w_ia (h : Sim φ w0 L E st a w) {t : TypeId} {z : Nat} {x i : Operand} {x' i' : Opd} (ho : o.op = .indexAddr t x i) (hx : chkOpd φ x x' = true) (hi : chkOpd φ i i' = true) (hc : chkIa P t z = true)
 (hd : ∀ i,o.dst = some i → i < a.tmps.size) (he : stepW cf io o.dst st (.ia z x' i') = some st')
 (hn : ∀ E' v w',Sim φ w0 L E' st' (a.put o.dst v) w' → next (a.put o.dst v) w') : o.wp P a w next Q := by
 have vx := opd_ok h hx
 have vi := (opd_ok h hi).1
 simp only [stepW] at he
 split at he
 ·rename_i kk n k z' xs e1 e2
  obtain ⟨⟨v0,st1⟩,hp,he⟩ := Option.bind_eq_some_iff.1 he
  simp only at he
  split at he
  ·rename_i z0 xs0
   split at he
   ·rename_i hcond
    obtain ⟨h0,hz⟩ := hcond
    obtain ⟨y,hy,rfl⟩ := Option.map_eq_some_iff.1 he
    rw [e1] at vi
    obtain ⟨E1,h1,hρ,hst,hrep,_⟩ := h.toSimE.pin vx.1 vx.2 hp
    have hS : Sim φ w0 L E1 st1 a w := ⟨h1,h.nodef⟩
    have hlt : n.toNat < xs0.length := (List.getElem?_eq_some_iff.1 hy).1
    generalize hev : a.eval x = sv at hrep
    cases hrep with
    | slE ad cap z => simp at hy
    | sl b o1 cap z2 _ vs hb hzz hcap hrs hcs =>
      subst hz
      have hrun : (execOp a.eval o).run P w = .ok (.value (.pointer (some ⟨b,o1 + n.toNat * z0,none⟩))) w := by
       simp only [execOp,ho,hev,vi.int_inv,Sem.run_bind,run_indexAt_slice hc h0 (show n < (xs0.length : Int) by omega),Result.andThen_ok,Sem.run_pure]
      have hpt := rv_ptr (φ := φ) (E := E1) (st := st1) (a := a) (w := w) (r := st1.r) (b := b) (o := o1 + n.toNat * z0) (c := 0) (v := .pointer (some ⟨b,o1 + n.toNat * z0,none⟩)) hb (hrs.elem hzz hy) ((hcs.drop _).take _) (by simp)
      unfold Oper.wp
      rw [hrun,Oper.upon_value]
      exact hn E1 _ w (hS.put' hd hpt.1 (hpt.2.tok hS))
   ·cases he
  ·cases he
 ·cases he
theorem run_fillQ {z : Nat} : ∀ (l : List (Nat × Operand)) (m : List (Nat × Opd)) (cells : Array Value) (xs xs' : List A) (E : Env) (st st' : St),Sim φ w0 L E st a w → chkPartsS φ l m = true → (∀ x ∈ xs,x.cells.length = z) →
 Reps φ w E.ok cells.toList (xs.flatMap A.cells) → stepW.fillQ st z xs m = some (xs',st') →
 ∃ cells' E',Instr.fill (fun i => some (i * z,z)) cells (l.map fun p => (p.1,a.eval p.2)) = some cells' ∧ Sim φ w0 L E' st' a w ∧ Reps φ w E'.ok cells'.toList (xs'.flatMap A.cells) ∧ (∀ x ∈ xs',x.cells.length = z) ∧ xs'.length = xs.length := by
 intro l
 induction l with
 | nil =>
   intro m cells xs xs' E st st' h hc hz hv hf
   cases m with
   | nil => simp [stepW.fillQ] at hf; obtain ⟨rfl,rfl⟩ := hf; exact ⟨cells,E,rfl,h,hv,hz,rfl⟩
   | cons => simp [chkPartsS] at hc
 | cons p l ih =>
   intro m cells xs xs' E st st' h hc hz hv hf
   obtain ⟨i,x⟩ := p
   cases m with
   | nil => simp [chkPartsS] at hc
   | cons q m =>
     obtain ⟨j,y⟩ := q
     simp only [chkPartsS,Bool.and_eq_true,beq_iff_eq] at hc
     obtain ⟨⟨rfl,hx⟩,hc⟩ := hc
     simp only [stepW.fillQ] at hf
     obtain ⟨⟨v,st1⟩,hd,hf⟩ := Option.bind_eq_some_iff.1 hf
     simp only at hf
     split at hf
     ·rename_i hcond
      obtain ⟨hvz,hlt⟩ := hcond
      have hop := opd_ok h hx
      obtain ⟨E1,h1,hρ,hst,hrep,_⟩ := h.toSimE.pin hop.1 hop.2 hd
      have hcells := hrep.cells
      have hsz : (a.eval x).cells.size = z := by have := hcells.length; simp at this; omega
      have hfl := flat_length hz
      have hcl : cells.size = xs.length * z := by have := hv.length; rw [hfl] at this; simpa using this
      have hle : i * z + z ≤ xs.length * z := by
       have : (i + 1) * z ≤ xs.length * z := Nat.mul_le_mul_right z hlt
       rw [Nat.succ_mul] at this; exact this
      obtain ⟨cells',hc1,hc2⟩ := run_fill_step (place := fun i => some (i * z,z)) (cells := cells) (i := i) (v := a.eval x) (rest := l.map fun p => (p.1,a.eval p.2)) (by rw [hsz]) (by rw [hsz,hcl]; exact hle)
      simp only [List.map_cons]
      rw [hc2]
      have hz' : ∀ y ∈ xs.set i v,y.cells.length = z := by
       intro y hy
       rcases List.mem_or_eq_of_mem_set hy with h' | rfl
       ·exact hz y h'
       ·exact hvz
      have hv' := hv.mono (w' := w) (ok' := E1.ok) (fun _ _ => rfl) hst.ok
      obtain ⟨c2,E2,a1,a2,a3,a4,a5⟩ := ih m cells' (xs.set i v) xs' E1 st1 st' ⟨h1,h.nodef⟩ hc hz' (by
       rw [hc1,hsz,flat_set hz hvz hlt]
       exact ((hv'.take _).append hcells).append (hv'.drop _)) hf
      exact ⟨c2,E2,a1,a2,a3,a4,by simpa using a5⟩
     ·cases hf
theorem w_bsl (h : Sim φ w0 L E st a w) {t e : TypeId} {n z : Nat} {parts : Array (Nat × Operand)} {zero : A} {ps : List (Nat × Opd)} (ho : o.op = .buildSlice t n parts) (ht : P.underlying t = some (.slice e)) (hz : chkZ P e z zero = true)
 (hc : chkPartsS φ parts.toList ps = true) (hd : ∀ i,o.dst = some i → i < a.tmps.size) (he : stepW cf io o.dst st (.bsl z zero n ps) = some st')
 (hn : ∀ E' v w',Sim φ w0 L E' st' (a.put o.dst v) w' → next (a.put o.dst v) w') : o.wp P a w next Q := by
 simp only [stepW] at he
 split at he
 ·rename_i d hdst
  split at he
  ·rename_i hcond
   obtain ⟨⟨xs,st1⟩,hf,rfl⟩ := Option.map_eq_some_iff.1 he
   obtain ⟨i,v,hi,hsz,hzero,hcs,hvz⟩ := chkZ_spec hz
   have hmade : (madeCells v.cells (n * z)).toList = (List.replicate n v.cells.toList).flatten := by rw [← hvz]; exact madeCells_replicate _ _
   have h0 : Reps φ w E.ok (madeCells v.cells (n * z)).toList ((List.replicate n zero).flatMap A.cells) := by rw [hmade]; exact reps_replicate (chkCs_reps hcs) n
   obtain ⟨cells',E1,h1,hS,h2,h3,h4⟩ := run_fillQ parts.toList ps _ _ xs E st st1 h hc (fun x hx => by rw [List.eq_of_mem_replicate hx]; exact hcond.2) h0 hf
   have hxl : xs.length = n := by simpa using h4
   have hparts : (parts.map fun p => (p.1,a.eval p.2)).toList = parts.toList.map fun p => (p.1,a.eval p.2) := by simp
   have hlim : ¬ n * z > 16777216 := by omega
   have hcl : cells'.size = n * z := by have := h2.length; rw [flat_length h3,hxl] at this; simpa using this
   have hrun : (Instr.buildSlice t n (parts.map fun p => (p.1,a.eval p.2))).run P w = .ok (.slice (some ⟨w.heap.size,0,none⟩) n n) { w with heap := w.heap.push (.cells cells' e) } := by
    have e1 : (sizeOf e).run P w = .ok z w := by simp [sizeOf,typeInfo,hi,hsz]
    have hzv : (zeroValue e).run P w = .ok v w := by simp [zeroValue,typeInfo,hi,hzero]
    by_cases hn : n * z = 0
    ·have hm0 : madeCells v.cells (n * z) = #[] := by rw [hn]; simp [madeCells,Array.range_zero']
     rw [hm0] at h1
     have hm1 : ((Array.range (n * z)).map ((#[] : Array Value)[· % (#[] : Array Value).size]!)) = #[] := by rw [hn]; simp [Array.range_zero']
     simp only [Instr.buildSlice,Sem.run_bind,run_underlying ht,Result.andThen_ok,e1,Sem.run_ite,hn,if_true,Sem.run_pure,hparts,show ¬ (0 > 2 ^ 24) from by decide,if_false]
     simp only [hn] at hm1
     simp only [hm1,h1]
     simp [newRow]
    ·simp only [Instr.buildSlice,Sem.run_bind,run_underlying ht,Result.andThen_ok,e1,hlim,Sem.run_ite,if_false,hn,hzv,Sem.run_pure,hparts]
     have hm1 : ((Array.range (n * z)).map (v.cells[· % v.cells.size]!)) = madeCells v.cells (n * z) := rfl
     simp only [hm1,h1]
     simp [newRow]
   have hex : (execOp a.eval o).run P w = .ok (.value (.slice (some ⟨w.heap.size,0,none⟩) n n)) { w with heap := w.heap.push (.cells cells' e) } := by
    simp only [execOp,ho,Sem.run_bind,hrun,Result.andThen_ok,Sem.run_pure]
   have hh : ({ w with heap := w.heap.push (.cells cells' e) } : World).heap = w.heap.push (.cells cells' e) := rfl
   have hnt := new_tok (k := 8 * d) (cap := n) hS hh ⟨rfl,rfl⟩ h3 h2 (cells_push hh) (by omega) (by rw [hcl]; exact Nat.le_refl _)
   rw [hxl] at hnt
   unfold Oper.wp
   rw [hex,Oper.upon_value]
   refine hn E1 _ _ ?_
   rw [hdst]
   exact (hS.ext (ext_push hh ⟨rfl,rfl⟩) (.refl E1 w _)).put (hd d hdst) hnt.1 hnt.2
  ·cases he
 ·cases he
end
end Go.Ab
namespace Go.Ab
section
variable {P : Program} {φ : Nat → Nat} {w0 : World} {L : Lent} {E E' : Env} {st st' : St} {ev ev' : Nat → Value} {w w' : World} {r r' : Nat → Option Root} {a : Act}
structure Wm (w0 : World) (L : Lent) (E E' : Env) (r r' : Nat → Option Root) (w w' : World) (B : Nat → Prop) : Prop where
 same : ∀ b,b < w.heap.size → ¬ B b → w'.heap[b]? = w.heap[b]?
 size : w.heap.size ≤ w'.heap.size
 env : w'.os = w.os ∧ w'.output = w.output
 fr : ∀ b off,b < w.heap.size → w'.frozen? ⟨b,off,none⟩ = w.frozen? ⟨b,off,none⟩
 room : ∀ b n,Room w b n → Room w' b n
 ρ : E'.ρ = E.ρ
 ok : ∀ b,E.ok b → E'.ok b
 new : ∀ b,E'.ok b → E.ok b ∨ (B b ∧ b < w'.heap.size) ∨ (w.heap.size ≤ b ∧ b < w'.heap.size)
 nok : ∀ b,B b → ¬ E.ok b
 zone : ∀ b,B b → Zone w0 L b
 sh : ∀ q R',r' q = some R' → ∃ R,r q = some R ∧ R'.b = R.b ∧ R'.z = R.z ∧ R'.xs.length = R.xs.length
section
variable {B : Nat → Prop} (W : Wm w0 L E E' r r' w w' B) (hz : ∀ b,E.ok b → b < w.heap.size)
include W
theorem Wm.rep (hz : ∀ b,E.ok b → b < w.heap.size) {v : Value} {x : A} (h : Rep φ w E.ok v x) : Rep φ w' E'.ok v x := h.mono (fun b hk => W.same b (hz b hk) fun e => W.nok b e hk) W.ok
theorem Wm.reps (hz : ∀ b,E.ok b → b < w.heap.size) {v : List Value} {x : List A} (h : Reps φ w E.ok v x) : Reps φ w' E'.ok v x := h.mono (fun b hk => W.same b (hz b hk) fun e => W.nok b e hk) W.ok
theorem Wm.someOf {q : Nat} (hq : (r' q).isSome) : (r q).isSome := by
 obtain ⟨R,hR⟩ := Option.isSome_iff_exists.1 hq
 obtain ⟨R1,h1,_⟩ := W.sh q R hR
 rw [h1]; rfl
theorem Wm.noneOf {q : Nat} (hq : r q = none) : r' q = none := by
 cases e : r' q with
 | none => rfl
 | some R => have := W.someOf (q := q) (by rw [e]; rfl); rw [hq] at this; cases this
theorem RV1.back (hz : ∀ b,E.ok b → b < w.heap.size) {v : Value} {x : A} (hnt : ∀ k b,Tk1 v x k b → ¬ B b) (h : RV1 φ E r w v x) : RV1 φ E' r' w' v x := by
 have hsome : ∀ q R,r q = some R → r' q = none ∨ ∃ R',r' q = some R' ∧ R'.b = R.b ∧ R'.z = R.z ∧ R'.xs.length = R.xs.length := fun q R hq => by
  cases e : r' q with
  | none => exact .inl rfl
  | some R' =>
    obtain ⟨R1,h1,h2⟩ := W.sh q R' e
    rw [hq] at h1; cases h1
    exact .inr ⟨R',rfl,h2⟩
 cases h with
 | any => exact .any _
 | undef => exact .undef
 | data _ _ h => exact .data _ _ (W.rep hz h)
 | tokE => exact .tokE _ _ _
 | tok b' o cap k z xs vs hc h0 hzz h hv hrm =>
   have hb : ¬ B b' := hnt k b' (.mk ⟨b',o,none⟩ _ _ _ _ _ h0)
   exact .tok b' o cap k z xs vs hc h0 hzz (W.reps hz h) (hv.of_block (W.same b' hrm.lt hb)) (W.room _ _ hrm)
 | viewN _ q off n h => exact .viewN _ _ _ _ (W.noneOf h)
 | viewE ad q off R h hb hn =>
   rcases hsome q R h with h1 | ⟨R',h1,h2,h3,h4⟩
   ·exact .viewN _ _ _ _ h1
   ·exact .viewE ad q off R' h1 (h2.trans hb) (h4 ▸ hn)
 | view b' o cap q off n R h hb hn hc h0 hq hrm =>
   rcases hsome q R h with h1 | ⟨R',h1,h2,h3,h4⟩
   ·exact .viewN _ _ _ _ h1
   ·rw [← h3] at hrm ⊢
    exact .view b' o cap q off n R' h1 (h2.trans hb) (h4 ▸ hn) hc h0 (W.ρ ▸ hq) (W.room _ _ hrm)
 | locN _ q i c h => exact .locN _ _ _ _ (W.noneOf h)
 | loc b' o q i c R h hq =>
   rcases hsome q R h with h1 | ⟨R',h1,h2,h3,h4⟩
   ·exact .locN _ _ _ _ h1
   ·rw [← h3]; exact .loc b' o q i c R' h1 (W.ρ ▸ hq)
theorem RV.back (hz : ∀ b,E.ok b → b < w.heap.size) {v : Value} {x : A} (hnt : ∀ k b,Tk v x k b → ¬ B b) (h : RV φ E r w v x) : RV φ E' r' w' v x := by
 cases h with
 | one _ _ h => exact .one _ _ (h.back W hz fun k b ht => hnt k b (.one _ _ _ _ ht))
 | tup vs xs h => exact .tup vs xs ⟨h.1,fun j v x hv hx => (h.2 j v x hv hx).back W hz fun k b ht => hnt k b (.tup vs xs j k b v x hv hx ht)⟩
 | agg vs xs h => exact .agg vs xs ⟨h.1,fun j v x hv hx => (h.2 j v x hv hx).back W hz fun k b ht => hnt k b (.agg vs xs j k b v x hv hx ht)⟩
 | fn f vs xs h hn =>
   refine .fn f vs xs ⟨h.1,fun j v x hv hx => (h.2 j v x hv hx).back W hz fun k b ht => ?_⟩ hn
   have := hn x (List.mem_of_getElem? hx)
   cases ht; cases this
theorem CellOk.back (hz : ∀ b,E.ok b → b < w.heap.size) {q c : Nat} {v : Value} {x : A} (h : CellOk φ E r w q c v x) : CellOk φ E' r' w' q c v x := by
 cases h with
 | data _ h ha => exact .data _ _ (W.rep hz h) ha
 | any h => exact .any _ h
 | view off n hc h hv => exact .view _ _ _ hc (h.back W hz fun k b ht => by cases ht) hv
end
theorem SimE.back (h : SimE φ w0 L E st ev w) {B : Nat → Prop} {r' : Nat → Option Root} (W : Wm w0 L E E' st.r r' w w' B) (htk : ∀ i k b,Tk (ev i) (st.t i) k b → ¬ B b) (hnk : ∀ q b o,(r' q).isSome → E.ρ q = some (b,o) → B b → ¬ E'.ok b)
 (hr : ∀ q R',r' q = some R' → (st.r q = some R' ∧ ∀ b o,E.ρ q = some (b,o) → ¬ B b) ∨ RootOk φ E' r' w' q R') : SimE φ w0 L E' { st with r := r' } ev w' := by
 have nok : ∀ b,¬ E.ok b → b < w.heap.size → ¬ B b → ¬ E'.ok b := fun b h1 h2 hB h3 => by
  rcases W.new b h3 with h4 | h4 | h4
  ·exact h1 h4
  ·exact hB h4.1
  ·omega
 exact {
  slots := fun i => (h.slots i).back W h.okz (htk i)
  roots := fun q R' hq => by
   rcases hr q R' hq with ⟨h1,h5⟩ | h5
   ·cases h.roots q R' h1 with
    | empty z h => exact .empty z (W.ρ ▸ h)
    | sl b' o z xs vs hρ hz hh hv hrm => exact .sl b' o z xs vs (W.ρ ▸ hρ) hz (W.reps h.okz hh) (hv.of_block (W.same _ hrm.lt (h5 _ _ hρ))) (W.room _ _ hrm)
    | box b' o z x vs hρ hz hlt hl hh hv hrm => exact .box b' o z x vs (W.ρ ▸ hρ) hz hlt hl (fun c v a h1 h2 => (hh c v a h1 h2).back W h.okz) (hv.of_block (W.same _ hrm.lt (h5 _ _ hρ))) (W.room _ _ hrm)
   ·exact h5
  inj := fun q q' b o b' o' a1 a2 a3 a4 => h.inj q q' b o b' o' (W.someOf a1) (W.someOf a2) (W.ρ ▸ a3) (W.ρ ▸ a4)
  rz := fun q b o a1 a2 => by
   have := h.rz q b o (W.someOf a1) (W.ρ ▸ a2)
   refine ⟨fun hk => ?_,this.2.1,Nat.lt_of_lt_of_le this.2.2 W.size⟩
   by_cases hB : B b
   ·exact hnk q b o a1 (W.ρ ▸ a2) hB hk
   ·exact nok b this.1 this.2.2 hB hk
  tz := fun i k b a1 => by
   have := h.tz i k b a1
   exact ⟨⟨nok b this.1.1 this.1.2.2 (htk i k b a1),this.1.2.1,Nat.lt_of_lt_of_le this.1.2.2 W.size⟩,fun q b' o a2 a3 => this.2 q b' o (W.someOf a2) (W.ρ ▸ a3)⟩
  td := h.td
  okz := fun b hk => by
   rcases W.new b hk with h1 | h1 | h1
   ·exact Nat.lt_of_lt_of_le (h.okz b h1) W.size
   ·exact h1.2
   ·exact h1.2
  grow := Nat.le_trans h.grow W.size
  frame := fun b h1 h2 => by
   have hb : ¬ B b := fun hb => (W.zone b hb).elim (fun h3 => by omega) h2
   exact (W.same b (Nat.lt_of_lt_of_le h1 h.grow) hb).trans (h.frame b h1 h2)
  env := ⟨W.env.1.trans h.env.1,W.env.2.trans h.env.2⟩
  fr := fun b off hb => (W.fr b off (Nat.lt_of_lt_of_le hb h.grow)).trans (h.fr b off hb)
  room := fun b n hr => W.room b n (h.room b n hr)
  lent := fun i p a1 a2 => by rw [W.ρ]; exact h.lent i p a1 (W.someOf a2)
  okU := fun b hb => W.ok b (h.okU b hb)
  okL := fun b hk => by
   rcases W.new b hk with h1 | h1 | h1
   ·exact h.okL b h1
   ·exact .inr (W.zone b h1.1)
   ·exact .inr (.inl (Nat.le_trans h.grow h1.1)) }
theorem OwnRep.one {K : Nat → Prop} {v : Value} {z : Nat} {xs : List A} {b : Option Nat} (h : OwnRep φ w K v z xs b) : (∀ cs,v ≠ .agg cs) ∧ (∀ vs,v ≠ .tuple vs) := by
 cases h <;> exact ⟨(fun _ h => by cases h),(fun _ h => by cases h)⟩
theorem CellRep.one {K : Nat → Prop} {v : Value} {x : A} {b : Option Nat} (h : CellRep φ w K v x b) : (∀ cs,v ≠ .agg cs) ∧ (∀ vs,v ≠ .tuple vs) := by
 cases h with
 | data _ h ha => exact h.oneCell ha
 | own z xs _ h => exact h.one
theorem CellRep.nagg {K : Nat → Prop} {v : Value} {x : A} {b : Option Nat} (h : CellRep φ w K v x b) (l : List A) : x ≠ .agg l := by
 cases h with
 | data _ h ha => exact ha l
 | own => exact fun e => by cases e
theorem CellReps.length {K : Nat → Prop} : ∀ {vs : List Value} {xs : List A} {bs : List Nat},CellReps φ w K vs xs bs → vs.length = xs.length
 | _,_,_,.nil => rfl
 | _,_,_,.cons _ _ _ _ _ _ _ t => congrArg (· + 1) t.length
theorem CellReps.get {K : Nat → Prop} : ∀ {vs : List Value} {xs : List A} {bs : List Nat},CellReps φ w K vs xs bs → ∀ {j : Nat} {v : Value} {x : A},vs[j]? = some v → xs[j]? = some x → ∃ b,CellRep φ w K v x b
 | _,_,_,.nil,j,_,_,h,_ => by simp at h
 | _,_,_,.cons _ _ _ _ _ _ h t,0,v,x,hv,hx => by simp at hv hx; subst hv; subst hx; exact ⟨_,h⟩
 | _,_,_,.cons _ _ _ _ _ _ h t,j + 1,v,x,hv,hx => t.get (by simpa using hv) (by simpa using hx)
theorem SimE.rootOwn (h : SimE φ w0 L E st ev w) {v : Value} {z : Nat} {xs : List A} {ob : Option Nat} (hv : OwnRep φ w E.ok v z xs ob) (hF : ∀ b,ob = some b → Fresh w0 L E st ev w b) {q : Nat} (hpl : L.pl q = none ∨ ∃ b o n cap,v = .slice (some ⟨b,o,none⟩) n cap ∧ cap ≠ 0 ∧ L.pl q = some (b,o))
 (hc : ∀ p' R',st.r p' = some R' → R'.b = true → ∀ x ∈ R'.xs,∀ y ∈ x.cells,refs1 q y = false) :
 ∃ E',SimE φ w0 L E' ((st.kill q).setRoot q (some ⟨false,z,xs⟩)) ev w ∧ Step (· = q) E st E' ((st.kill q).setRoot q (some ⟨false,z,xs⟩)) ∧ E'.ok = E.ok ∧
   RV1 φ E' ((st.kill q).setRoot q (some ⟨false,z,xs⟩)).r w v (.view q 0 xs.length) ∧ ∀ b,ob ≠ some b → Fresh w0 L E st ev w b → Fresh w0 L E' ((st.kill q).setRoot q (some ⟨false,z,xs⟩)) ev w b := by
 have h1 := ((h.kill q).unroot q)
 rw [← setRoot_twice]
 have hn : ∀ i,refs q (((st.kill q).setRoot q none).t i) = false := fun i => refs_kill q _
 have hq0 : (((st.kill q).setRoot q none).r q) = none := by simp [St.setRoot]
 have hc' : ∀ p' R',((st.kill q).setRoot q none).r p' = some R' → R'.b = true → ∀ x ∈ R'.xs,∀ y ∈ x.cells,refs1 q y = false := fun p' R' hp hb => by
  simp only [St.setRoot] at hp
  split at hp
  ·cases hp
  ·exact hc p' R' hp hb
 have step : ∀ p,Step (· = q) E st ⟨E.ok,fun i => if i = q then p else E.ρ i⟩ (((st.kill q).setRoot q none).setRoot q (some ⟨false,z,xs⟩)) := fun p => by
  refine ⟨fun _ h => h,fun p' hp => if_neg hp,fun p' hp => .inl ?_,fun p' R hp hR _ => ?_,fun p' R hp hR => .inl ?_⟩
  ·simp [St.setRoot,St.kill,St.map,hp]
  ·simpa [St.setRoot,St.kill,St.map,hp] using hR
  ·simp [St.setRoot,hp] at hR; rw [← hR]
 have fresh : ∀ (p : Option (Nat × Nat)) b,(∀ o,p ≠ some (b,o)) → Fresh w0 L E st ev w b → Fresh w0 L ⟨E.ok,fun i => if i = q then p else E.ρ i⟩ (((st.kill q).setRoot q none).setRoot q (some ⟨false,z,xs⟩)) ev w b := by
  intro p b hne hf
  refine ⟨hf.z,fun q' b' o' a1 a2 e => ?_,fun i k b' a1 => hf.t i k b' (Tk.comps (fd_kill q) a1).1⟩
  subst e
  by_cases e : q' = q
  ·simp [e] at a2; exact hne _ a2
  ·simp [e] at a2
   exact hf.r q' b' o' (by simpa [St.setRoot,St.kill,St.map,e] using a1) a2 rfl
 cases hv with
 | empty ad z =>
   refine ⟨_,h1.root (p := none) (R := ⟨false,z,[]⟩) hq0 hn hc' (fun b o e => by cases e) (fun p' e => by
    rcases hpl with h1 | ⟨b,o,n,cap,h1,h2,h3⟩
    ·rw [h1] at e; cases e
    ·simp only [Value.slice.injEq] at h1; exact absurd h1.2.2.symm h2) (.empty z (by simp)),step none,rfl,?_,fun b _ hf => fresh none b (fun o e => by cases e) hf⟩
   exact .viewE ad q 0 ⟨false,z,[]⟩ (by simp [St.setRoot]) rfl (Nat.zero_le _)
 | mk b o cap z xs vs hcc h0 hz hh hv' hrm =>
   have hf := hF b rfl
   refine ⟨_,h1.root (p := some (b,o)) (R := ⟨false,z,xs⟩) hq0 hn hc' (fun b' o' e => ?_) (fun p' e => by
    rcases hpl with h1 | ⟨b2,o2,n2,cap2,h1,h2,h3⟩
    ·rw [h1] at e; cases e
    ·simp only [Value.slice.injEq,Option.some.injEq,Addr.mk.injEq] at h1
     rw [h3] at e; rw [h1.1.1,h1.1.2.1]; exact e) (.sl b o z xs vs (by simp) hz hh hv' (hrm.le ?_)),step _,rfl,?_,fun b' hne hf' => fresh _ b' (fun o' e => hne (by cases e; rfl)) hf'⟩
   ·cases e
    refine ⟨hf.z,fun q' b' o' a1 a2 => hf.r q' b' o' ?_ a2,fun i' k' b' a1 => hf.t i' k' b' (Tk.comps (fd_kill q) a1).1⟩
    simp only [St.setRoot] at a1
    split at a1
    ·cases a1
    ·exact a1
   ·have := Nat.mul_le_mul_right z hcc; omega
   ·have := RV1.view (φ := φ) (E := ⟨E.ok,fun i => if i = q then some (b,o) else E.ρ i⟩) (r := (((st.kill q).setRoot q none).setRoot q (some ⟨false,z,xs⟩)).r) (w := w) b o cap q 0 xs.length ⟨false,z,xs⟩
     (by simp [St.setRoot]) rfl (by simp) hcc h0 (by simp) (by simpa using hrm)
    simpa using this
theorem SimE.takes {q : Nat} : ∀ {vs : List Value} {xs : List A} {bs : List Nat} {c : Nat} {E : Env} {st : St} {ys : List A} {st1 : St} (h : SimE φ w0 L E st ev w) (ha : Ab.takes q c st xs = some (ys,st1)) (hv : CellReps φ w E.ok vs xs bs)
 (hnd : bs.Nodup) (hF : ∀ b ∈ bs,Fresh w0 L E st ev w b) (hlt : c + xs.length ≤ 1000)
 (hc : ∀ c',c ≤ c' → c' < c + xs.length → ∀ p' R',st.r p' = some R' → R'.b = true → ∀ x ∈ R'.xs,∀ y ∈ x.cells,refs1 (sub q c') y = false),
 ∃ E',SimE φ w0 L E' st1 ev w ∧ Step (fun p => ∃ c',c ≤ c' ∧ c' < c + xs.length ∧ p = sub q c') E st E' st1 ∧ E'.ok = E.ok ∧ ys.length = xs.length ∧
   (∀ i v y,vs[i]? = some v → ys[i]? = some y → CellOk φ E' st1.r w q (c + i) v y) ∧ ∀ b,b ∉ bs → Fresh w0 L E st ev w b → Fresh w0 L E' st1 ev w b := by
 intro vs xs
 induction xs generalizing vs with
 | nil =>
   intro bs c E st ys st1 h ha hv _ _ _ _
   simp [Ab.takes] at ha
   obtain ⟨rfl,rfl⟩ := ha
   exact ⟨E,h,.refl _,rfl,rfl,fun i v y _ hy => by simp at hy,fun b _ hf => hf⟩
 | cons x xs ih =>
   intro bs c E st ys st1 h ha hv hnd hF hlt hc
   simp only [Ab.takes] at ha
   obtain ⟨⟨y,s⟩,hs,ha⟩ := Option.bind_eq_some_iff.1 ha
   obtain ⟨⟨ys',s2⟩,hys,ha⟩ := Option.map_eq_some_iff.1 ha
   simp only [Prod.mk.injEq] at ha
   obtain ⟨rfl,rfl⟩ := ha
   simp only [List.length_cons] at hlt hc
   cases hv with
   | cons v _ b vs _ bs hv0 ht =>
     obtain ⟨hn1,hn2,hn3⟩ := List.nodup_append.1 hnd
     have first : ∃ E1,SimE φ w0 L E1 s ev w ∧ Step (· = sub q c) E st E1 s ∧ E1.ok = E.ok ∧ CellOk φ E1 s.r w q c v y ∧ ∀ b',b ≠ some b' → Fresh w0 L E st ev w b' → Fresh w0 L E1 s ev w b' := by
      cases hv0 with
      | data _ hr hna =>
        have hp : take1 q c st x = if Ab.pureC x then some (x,st) else none := by
         cases hr <;> rfl
        rw [hp] at hs
        split at hs
        ·simp only [Option.some.injEq,Prod.mk.injEq] at hs
         obtain ⟨rfl,rfl⟩ := hs
         exact ⟨E,h,.refl _,rfl,.data _ _ hr hna,fun _ _ hf => hf⟩
        ·cases hs
      | own z xs' _ ho =>
        simp only [take1] at hs
        split at hs
        ·rename_i hc1
         simp only [Option.some.injEq,Prod.mk.injEq] at hs
         obtain ⟨rfl,rfl⟩ := hs
         obtain ⟨E1,a1,a2,a3,a4,a5⟩ := h.rootOwn (q := sub q c) ho (fun b' e => hF b' (List.mem_append_left _ (by simp [e]))) (.inl Lent.sub) (hc c (Nat.le_refl _) (by omega))
         exact ⟨E1,a1,a2,a3,.view _ _ _ hc1 a4 ho.one,a5⟩
        ·cases hs
     obtain ⟨E1,h1,hst,hok,hcell,hfr⟩ := first
     have hK : CellReps φ w E1.ok vs xs bs := by rw [hok]; exact ht
     obtain ⟨E2,h2,hst2,hok2,hl,hall,hfr2⟩ := ih h1 hys hK hn2 (fun b' hb' => hfr b' (fun e => hn3 b' (by simp [e]) b' hb' rfl) (hF b' (List.mem_append_right _ hb'))) (by omega)
      (fun c' a1 a2 p' R' hp hb => hc c' (by omega) (by omega) p' R' (hst.box hp hb) hb)
     have hinj : ∀ c',c + 1 ≤ c' → sub q c ≠ sub q c' := fun c' a1 e => by simp only [sub] at e; omega
     refine ⟨E2,h2,?_,hok2.trans hok,by simp [hl],fun i v' y' hv' hy' => ?_,fun b' hb' hf => hfr2 b' (fun hm => hb' (List.mem_append_right _ hm)) (hfr b' (fun e => hb' (List.mem_append_left _ (by simp [e]))) hf)⟩
     ·refine Step.trans (E1 := E1) (st1 := s) ⟨hst.ok,fun p hp => hst.ρ p fun e => hp ⟨c,by omega,by simp,e⟩,fun p hp => hst.r p fun e => hp ⟨c,by omega,by simp,e⟩,fun p R hp => hst.b p R fun e => hp ⟨c,by omega,by simp,e⟩,fun p R _ hR => ?_⟩
       ⟨hst2.ok,fun p hp => hst2.ρ p ?_,fun p hp => hst2.r p ?_,fun p R hp => hst2.b p R ?_,fun p R _ hR => ?_⟩
      ·by_cases e : p = sub q c
       ·exact hst.s p R e hR
       ·rcases hst.r p e with h3 | h3
        ·exact .inr (h3 ▸ hR)
        ·rw [h3] at hR; cases hR
      ·rintro ⟨c',a1,a2,e⟩; exact hp ⟨c',by omega,by simp; omega,e⟩
      ·rintro ⟨c',a1,a2,e⟩; exact hp ⟨c',by omega,by simp; omega,e⟩
      ·rintro ⟨c',a1,a2,e⟩; exact hp ⟨c',by omega,by simp; omega,e⟩
      ·by_cases e : ∃ c',c + 1 ≤ c' ∧ c' < c + 1 + xs.length ∧ p = sub q c'
       ·exact hst2.s p R e hR
       ·rcases hst2.r p e with h3 | h3
        ·exact .inr (h3 ▸ hR)
        ·rw [h3] at hR; cases hR
     ·cases i with
      | zero =>
        simp at hv' hy'; subst hv'; subst hy'
        exact hcell.step hst2 (fun ⟨c',a1,a2,e⟩ => hinj c' a1 e)
      | succ i =>
        have := hall i v' y' (by simpa using hv') (by simpa using hy')
        rwa [show c + (i + 1) = c + 1 + i from by omega]
theorem SimE.takeVar (h : SimE φ w0 L E st ev w) {q z : Nat} {x : A} {v : Value} {bs : List Nat} {st1 : St} (ha : Ab.takeVar st q z x = some st1) (hv : BoxRep φ w E.ok v z x bs) (hnd : bs.Nodup)
 (hF : ∀ b ∈ bs,Fresh w0 L E st ev w b) (hpl : ∀ p',L.pl q = some p' → v = .pointer (some ⟨p'.1,p'.2,none⟩)) :
 ∃ E',SimE φ w0 L E' st1 ev w ∧ E'.ok = E.ok ∧ RV1 φ E' st1.r w v (.loc q 0 0) ∧ (∀ b,b ∉ bs → Fresh w0 L E st ev w b → Fresh w0 L E' st1 ev w b) := by
 unfold Ab.takeVar at ha
 split at ha
 ·rename_i hq
  obtain ⟨hq,hlt⟩ := hq
  obtain ⟨⟨cs,s⟩,hs,ha⟩ := Option.map_eq_some_iff.1 ha
  simp only at ha
  subst ha
  cases hv with
  | mk b o z x vs bs hcr hcl hrm hz =>
    have h1 := (h.kill q).unroot q
    have hfr1 : ∀ b,Fresh w0 L E st ev w b → Fresh w0 L E ((st.kill q).setRoot q none) ev w b := fun b hf => ⟨hf.z,fun q' b' o' a1 a2 => hf.r q' b' o' (by
     simp only [St.setRoot] at a1
     split at a1
     ·cases a1
     ·exact a1) a2,fun i k b' a1 => hf.t i k b' (Tk.comps (fd_kill q) a1).1⟩
    obtain ⟨hb1,hb2⟩ := List.nodup_cons.1 hnd
    obtain ⟨E1,h2,hst,hok,hl,hall,hfr⟩ := h1.takes hs hcr hb2 (fun b' hb' => hfr1 b' (hF b' (List.mem_cons_of_mem _ hb'))) (by omega) (fun c' a1 a2 p' R' hp hb x hx y hy => by
     cases hr : refs1 (sub q c') y with
     | false => rfl
     | true =>
       obtain ⟨c2,hc2,e2,_⟩ := h1.cell_ref hp hb hx hy hr
       have e3 := (sub_inj (by omega) hc2 e2).1
       simp [St.setRoot,← e3] at hp)
    have hlv := hcr.length
    have hna : ∀ y ∈ cs,∀ l,y ≠ .agg l := fun y hy => by
     obtain ⟨c,hc⟩ := List.mem_iff_getElem?.1 hy
     have hcl : c < vs.length := by
      rcases Nat.lt_or_ge c cs.length with h | h
      ·omega
      ·simp [List.getElem?_eq_none h] at hc
     exact (hall c vs[c] y (by simp) hc).nagg
    have hrc : (reCell x cs).cells = cs := reCell_cells hl hna
    have h3 := h2.box (d := q) (z := z) (o := o) (b := b) (x := reCell x cs) (vs := vs) hq (fun p' e => by have := hpl p' e; simp only [Value.pointer.injEq,Option.some.injEq,Addr.mk.injEq] at this; exact Prod.ext this.1.symm this.2.1.symm) (hfr b hb1 (hfr1 b (hF b (List.mem_cons_self ..)))) (by rw [hrc,hl,hz]) (by rw [hrc,hl,hlv])
     (fun c u y hu hy => by have := hall c u y hu (by rw [hrc] at hy; exact hy); rwa [Nat.zero_add] at this) hcl hrm
    refine ⟨_,h3,hok,?_,fun b' hb' hf => ?_⟩
    ·have := RV1.loc (φ := φ) (E := ⟨E1.ok,fun i => if i = q then some (b,o) else E1.ρ i⟩) (r := ((s.kill q).setRoot q (some ⟨true,z,[reCell x cs]⟩)).r) (w := w) b o q 0 0 ⟨true,z,[reCell x cs]⟩ (by simp [St.setRoot]) (by simp)
     simpa using this
    ·have hf2 := hfr b' (fun hm => hb' (List.mem_cons_of_mem _ hm)) (hfr1 b' hf)
     refine ⟨hf2.z,fun q' b2 o' a1 a2 e => ?_,fun i k b2 a1 => hf2.t i k b2 (Tk.comps (fd_kill q) a1).1⟩
     subst e
     by_cases e : q' = q
     ·simp [e] at a2
      exact hb' (by rw [← a2.1]; exact List.mem_cons_self ..)
     ·simp [e] at a2
      exact hf2.r q' b2 o' (by simpa [St.setRoot,St.kill,St.map,e] using a1) a2 rfl
 ·cases ha
end
end Go.Ab
namespace Go.Ab
section
variable {P : Program} {φ : Nat → Nat} {w0 : World} {L : Lent} {E E' : Env} {st st' : St} {ev ev' : Nat → Value} {w w' : World} {r r' : Nat → Option Root} {a : Act}
def NB (E : Env) (st : St) (bs ns : List Nat) : Prop := (∀ b ∈ bs,∃ p ∈ ns,(st.r p).isSome = true ∧ ∃ o,E.ρ p = some (b,o)) ∧ (ns.Nodup → bs.Nodup)
theorem NB.nil : NB E st [] [] := ⟨(fun b h => by cases h),(fun _ => List.nodup_nil)⟩
theorem NB.none (ns : List Nat) : NB E st [] ns := ⟨(fun b h => by cases h),(fun _ => List.nodup_nil)⟩
theorem NB.one {b o p : Nat} (hl : (st.r p).isSome = true) (hρ : E.ρ p = some (b,o)) : NB E st [b] [p] :=
 ⟨fun c hc => by rw [List.mem_singleton] at hc; subst hc; exact ⟨p,List.mem_singleton.2 rfl,hl,o,hρ⟩,fun _ => by simp⟩
theorem NB.append (h : SimE φ w0 L E st ev w) {bs cs ns ms : List Nat} (h1 : NB E st bs ns) (h2 : NB E st cs ms) : NB E st (bs ++ cs) (ns ++ ms) := by
 refine ⟨fun b hb => ?_,fun hn => ?_⟩
 ·rcases List.mem_append.1 hb with hb | hb
  ·obtain ⟨p,hp,hx⟩ := h1.1 b hb; exact ⟨p,List.mem_append_left _ hp,hx⟩
  ·obtain ⟨p,hp,hx⟩ := h2.1 b hb; exact ⟨p,List.mem_append_right _ hp,hx⟩
 ·obtain ⟨n1,n2,n3⟩ := List.nodup_append.1 hn
  refine List.nodup_append.2 ⟨h1.2 n1,h2.2 n2,fun b hb c hc e => ?_⟩
  subst e
  obtain ⟨p,hp,hl,o,hρ⟩ := h1.1 b hb
  obtain ⟨p',hp',hl',o',hρ'⟩ := h2.1 b hc
  exact h.inj p p' b o b o' hl hl' hρ hρ' (n3 p hp p' hp') rfl
theorem view_own {q off n : Nat} {R : Root} (hro : RootOk φ E r w q R) (hR : r q = some R) {v : Value} (hv : RV1 φ E r w v (.view q off n)) :
 ∃ ob,OwnRep φ w E.ok v R.z ((R.xs.drop off).take n) ob ∧ (∀ b,ob = some b → ∃ o,E.ρ q = some (b,o)) := by
 cases hv with
 | data _ _ h => cases h
 | viewN _ _ _ _ h1 => rw [h1] at hR; cases hR
 | viewE ad q off R' h1 hb hn =>
   rw [List.take_zero]
   exact ⟨none,.empty _ _,fun b e => by cases e⟩
 | view b o cap q off n R' h1 hb hn hcc h0 hρ hrm =>
   rw [h1] at hR; cases hR
   have hlen : ((R.xs.drop off).take n).length = n := by simp; omega
   cases hro with
   | empty z h => rw [h] at hρ; cases hρ
   | box => cases hb
   | sl b1 o1 z xs vs hρ1 hzz hh hv' hrm' =>
     rw [hρ] at hρ1; cases hρ1
     have := OwnRep.mk (φ := φ) (w := w) (K := E.ok) b (o + off * z) cap z ((xs.drop off).take n) ((vs.drop (off * z)).take (n * z)) (by simp only at hlen; rw [hlen]; exact hcc) h0
      (fun y hy => hzz y (List.mem_of_mem_drop (List.mem_of_mem_take hy))) (by
        rw [flat_take (fun x hx => hzz x (List.mem_of_mem_drop hx)),flat_drop hzz]
        exact (hh.drop _).take _) ((hv'.drop _).take _) (by rw [Nat.add_mul,← Nat.add_assoc] at hrm; exact hrm)
     simp only at hlen
     rw [hlen] at this
     exact ⟨some b,this,fun b' e => by cases e; exact ⟨o,hρ⟩⟩
theorem lends_reps (h : SimE φ w0 L E st ev w) {q : Nat} : ∀ {xs ys : List A} {vs : List Value} {c : Nat},vs.length = xs.length → (∀ (j : Nat) (v : Value) (x : A),vs[j]? = some v → xs[j]? = some x → CellOk φ E st.r w q (c + j) v x) → lends st.r xs = some ys →
 ∃ bs,CellReps φ w E.ok vs ys bs ∧ NB E st bs (xs.flatMap rootOf1) ∧ ys.length = xs.length
 | [],ys,vs,c,hl,_,hc => by
   simp [lends] at hc; subst hc
   obtain rfl : vs = [] := List.eq_nil_of_length_eq_zero (by simpa using hl)
   exact ⟨[],.nil,NB.nil,rfl⟩
 | x :: xs,ys,[],c,hl,_,_ => by simp at hl
 | x :: xs,ys,v :: vs,c,hl,hcell,hc => by
   simp only [lends] at hc
   obtain ⟨y,hy,hc⟩ := Option.bind_eq_some_iff.1 hc
   obtain ⟨ys',hys,rfl⟩ := Option.map_eq_some_iff.1 hc
   obtain ⟨bs,h1,h2,h3⟩ := lends_reps h (c := c + 1) (by simpa using hl) (fun j v' x' hv hx => by
    have := hcell (j + 1) v' x' (by simpa using hv) (by simpa using hx)
    rwa [show c + (j + 1) = c + 1 + j from by omega] at this) hys
   have h0 := hcell 0 v x rfl rfl
   have first : ∃ b : Option Nat,CellRep φ w E.ok v y b ∧ NB E st b.toList (rootOf1 x) := by
    cases h0 with
    | data _ hr hna =>
      have hp : lend1 st.r x = if Ab.pureC x then some x else none := by cases hr <;> rfl
      rw [hp] at hy
      split at hy
      ·simp only [Option.some.injEq] at hy; subst hy
       exact ⟨none,.data _ _ hr hna,NB.none _⟩
      ·cases hy
    | any => simp [lend1,Ab.pureC] at hy
    | view off n hc' hrv hone =>
      simp only [lend1] at hy
      obtain ⟨R,hR,rfl⟩ := Option.map_eq_some_iff.1 hy
      obtain ⟨ob,ho,hρ⟩ := view_own (h.roots _ R hR) hR hrv
      refine ⟨ob,.own _ _ _ _ ho,?_⟩
      cases ob with
      | none => exact NB.none _
      | some b => obtain ⟨o,hρ'⟩ := hρ b rfl; exact NB.one (by rw [hR]; rfl) hρ'
   obtain ⟨b,h4,h5⟩ := first
   exact ⟨b.toList ++ bs,.cons _ _ _ _ _ _ h4 h1,by rw [List.flatMap_cons]; exact h5.append h h2,by simp [h3]⟩
theorem OwnRep.cap {K : Nat → Prop} {v : Value} {z : Nat} {xs : List A} {ob : Option Nat} (h : OwnRep φ w K v z xs ob) : ob = none ∨ ∃ b o n cap,v = .slice (some ⟨b,o,none⟩) n cap ∧ cap ≠ 0 := by
 cases h with
 | empty => exact .inl rfl
 | mk b o cap z xs vs hc h0 => exact .inr ⟨b,o,_,cap,rfl,h0⟩
inductive LO (φ : Nat → Nat) (E : Env) (st : St) (w w' : World) (K' : Nat → Prop) : List Nat → List A → List Nat → List Nat → List Nat → Prop
 | nil : LO φ E st w w' K' [] [] [] [] []
 | iob (q z b o : Nat) (e y : A) (bs qs os ns ob em : _) (hR : st.r q = some ⟨true,z,[e]⟩) (hρ : E.ρ q = some (b,o)) (hB : BoxRep φ w' K' (.pointer (some ⟨b,o,none⟩)) z y (b :: bs))
    (t : LO φ E st w w' K' qs os ns ob em) : LO φ E st w w' K' (q :: qs) (.iob z [y] :: os) (q :: e.cells.flatMap rootOf1 ++ ns) (b :: bs ++ ob) em
 | ios (q z : Nat) (v : Value) (xs ys : List A) (b : Option Nat) (qs os ns ob em : _) (hR : st.r q = some ⟨false,z,xs⟩) (hv : RV1 φ E st.r w v (.view q 0 xs.length)) (ho : OwnRep φ w' K' v z ys b) (hl : ys.length = xs.length)
    (t : LO φ E st w w' K' qs os ns ob em) : LO φ E st w w' K' (q :: qs) (.ios z ys :: os) (q :: ns) (b.toList ++ ob) (if b.isNone then q :: em else em)
 | gone (q z : Nat) (xs : List A) (qs os ns ob em : _) (hR : st.r q = some ⟨false,z,xs⟩) (t : LO φ E st w w' K' qs os ns ob em) : LO φ E st w w' K' (q :: qs) (.any :: os) (q :: ns) ob em
theorem args_ok (h : SimE φ w0 L E st ev w) {Ns : List Nat} : ∀ {xs : List A} {vs : List Value} {io : List Bool} {ls : List (Option A)} {qs ns : List Nat} {as : List A},All2 (RV φ E st.r w) vs xs → loans st io xs = some (ls,qs,ns) →
 args1 { st with r := less st.r Ns } ls xs = some as →
 ∃ bs,ArgReps φ w E.ok vs as bs ∧ NB E st bs ns ∧ ∀ {w' : World} {K' : Nat → Prop} {outs : List A} {ob : List Nat},OutReps φ w' K' vs as outs ob → ∃ em,LO φ E st w w' K' qs outs ns ob em ∧
   (∀ q ∈ em,q ∈ ns ∧ (st.r q).isSome = true) ∧ (ns.Nodup → ∀ q ∈ em,∀ b o,E.ρ q = some (b,o) → b ∉ bs)
 | [],vs,io,ls,qs,ns,as,hv,hl,ha => by
   obtain rfl : vs = [] := List.eq_nil_of_length_eq_zero hv.1
   simp [loans] at hl
   obtain ⟨rfl,rfl,rfl⟩ := hl
   simp [args1] at ha; subst ha
   exact ⟨[],.nil,NB.nil,fun ho => by cases ho; exact ⟨[],.nil,(fun _ h => by cases h),(fun _ _ h => by cases h)⟩⟩
 | x :: xs,vs,io,ls,qs,ns,as,hv,hl,ha => by
   obtain ⟨v,vs,rfl,hx,hvs⟩ := hv.uncons
   have plain : ∀ {ls' qs' ns'},loans st io.tail xs = some (ls',qs',ns') → ls = none :: ls' → qs = qs' → ns = ns' →
    ∃ bs,ArgReps φ w E.ok (v :: vs) as bs ∧ NB E st bs ns ∧ ∀ {w' : World} {K' : Nat → Prop} {outs : List A} {ob : List Nat},OutReps φ w' K' (v :: vs) as outs ob → ∃ em,LO φ E st w w' K' qs outs ns ob em ∧
      (∀ q ∈ em,q ∈ ns ∧ (st.r q).isSome = true) ∧ (ns.Nodup → ∀ q ∈ em,∀ b o,E.ρ q = some (b,o) → b ∉ bs) := by
    intro ls' qs' ns' hl' e1 e2 e3
    subst e1; subst e2; subst e3
    simp only [args1] at ha
    split at ha
    ·cases ha
    ·rename_i how
     obtain ⟨y,hy,ha⟩ := Option.bind_eq_some_iff.1 ha
     obtain ⟨ys,hys,rfl⟩ := Option.map_eq_some_iff.1 ha
     obtain ⟨bs,h1,h2,h3⟩ := args_ok h (Ns := Ns) hvs hl' hys
     have hxw : RV φ E (less st.r Ns) w v x := hx.imp fun v x hx => hx.weak (fun _ h => h) (fun q R hq => by
      simp only [less] at hq
      split at hq
      ·cases hq
      ·exact ⟨hq,rfl⟩)
     have hrep : Rep φ w E.ok v y := hxw.free (by simpa using how) hy
     refine ⟨bs,by have := ArgReps.cons _ _ _ _ _ _ (.data _ _ hrep) h1; simpa using this,h2,fun ho => ?_⟩
     cases ho with
     | data _ _ _ _ _ _ _ t => exact h3 t
     | iob => cases hrep
     | ios => cases hrep
     | gone => cases hrep
   match io,hl with
   | [],hl =>
     simp only [loans] at hl
     obtain ⟨⟨ls',qs',ns'⟩,hl',hl⟩ := Option.map_eq_some_iff.1 hl
     simp only [Prod.mk.injEq] at hl
     exact plain hl' hl.1.symm hl.2.1.symm hl.2.2.symm
   | false :: io,hl =>
     simp only [loans] at hl
     obtain ⟨⟨ls',qs',ns'⟩,hl',hl⟩ := Option.map_eq_some_iff.1 hl
     simp only [Prod.mk.injEq] at hl
     exact plain hl' hl.1.symm hl.2.1.symm hl.2.2.symm
   | true :: io,hl =>
     simp only [loans] at hl
     obtain ⟨⟨q,y⟩,hq,hl⟩ := Option.bind_eq_some_iff.1 hl
     obtain ⟨⟨ls',qs',ns'⟩,hl',hl⟩ := Option.map_eq_some_iff.1 hl
     simp only [Prod.mk.injEq] at hl
     obtain ⟨rfl,rfl,rfl⟩ := hl
     simp only [args1] at ha
     obtain ⟨ys,hys,rfl⟩ := Option.map_eq_some_iff.1 ha
     obtain ⟨bs,h1,h2,h3⟩ := args_ok h (Ns := Ns) hvs hl' hys
     have hdisj : ∀ {bs1 ns1 : List Nat},NB E st bs1 ns1 → (ns1 ++ ns').Nodup → ∀ p ∈ ns',∀ b o,(st.r p).isSome = true → E.ρ p = some (b,o) → b ∉ bs1 := by
      intro bs1 ns1 hnb hn p hp b o hlv hρ hb
      obtain ⟨p',hp',hlv',o',hρ'⟩ := hnb.1 b hb
      exact h.inj p' p b o' b o hlv' hlv hρ' hρ ((List.nodup_append.1 hn).2.2 p' hp' p hp) rfl
     unfold loanOf at hq
     split at hq
     ·
      rename_i q0 _ _
      obtain ⟨R,hR,hq⟩ := Option.bind_eq_some_iff.1 hq
      split at hq
      ·rename_i e hb hxs
       obtain ⟨cs,hcs,hq⟩ := Option.map_eq_some_iff.1 hq
       simp only [Prod.mk.injEq] at hq
       obtain ⟨rfl,rfl⟩ := hq
       obtain ⟨Rb,Rz,Rxs⟩ := R
       simp only at hb hxs
       subst hb; subst hxs
       obtain ⟨b,o,hρ,hve⟩ := hx.loc_inv.loc_at hR
       subst hve
       cases h.roots _ _ hR with
       | box b1 o1 z _ us hρ1 hz hlt hlen hcells hcl hrm =>
         rw [hρ] at hρ1; cases hρ1
         obtain ⟨bs1,h4,h5,h6⟩ := lends_reps h (c := 0) hlen (fun j v x hv hx => by have := hcells j v x hv hx; rwa [Nat.zero_add]) hcs
         have hna : ∀ y ∈ cs,∀ l,y ≠ .agg l := fun y hy => by
          obtain ⟨c,hc⟩ := List.mem_iff_getElem?.1 hy
          have hcl : c < us.length := by
           rcases Nat.lt_or_ge c cs.length with h | h
           ·omega
           ·simp [List.getElem?_eq_none h] at hc
          obtain ⟨b',hb'⟩ := h4.get (j := c) (v := us[c]) (by simp) hc
          exact hb'.nagg
         have hrc : (reCell e cs).cells = cs := reCell_cells h6 hna
         have hbox : BoxRep φ w E.ok (.pointer (some ⟨b,o,none⟩)) Rz (reCell e cs) (b :: bs1) := .mk b o Rz _ us bs1 (by rw [hrc]; exact h4) hcl hrm (by rw [hrc,h6,hz])
         have hnm : names st.r (.loc q0 0 0) = q0 :: e.cells.flatMap rootOf1 := by simp [names,namesOf,hR]
         rw [hnm]
         have hnb : NB E st (b :: bs1) (q0 :: e.cells.flatMap rootOf1) := (NB.one (by rw [hR]; rfl) hρ).append h h5
         refine ⟨(b :: bs1) ++ bs,.cons _ _ _ _ _ _ (by simpa using ArgRep.iob _ _ _ _ hbox) h1,hnb.append h h2,fun ho => ?_⟩
         cases ho with
         | data _ _ _ _ _ _ hna t => exact absurd rfl (hna.1 _ _)
         | iob _ _ _ y1 ob1 _ _ os ob hB t =>
           obtain ⟨em,a1,a2,a3⟩ := h3 t
           have hB0 : ∃ bs2,ob1 = b :: bs2 := by
            simp only [Nat.zero_mul,Nat.add_zero] at hB
            cases hB; exact ⟨_,rfl⟩
           obtain ⟨bs2,rfl⟩ := hB0
           refine ⟨em,.iob q0 Rz b o e y1 bs2 _ _ _ _ em hR hρ (by simpa using hB) a1,fun q hq => ⟨List.mem_append_right _ (a2 q hq).1,(a2 q hq).2⟩,fun hn q hq b' o' hρ' => ?_⟩
           intro hm
           rcases List.mem_append.1 hm with hm | hm
           ·exact hdisj hnb hn q (a2 q hq).1 b' o' (a2 q hq).2 hρ' hm
           ·exact a3 (List.nodup_append.1 hn).2.1 q hq b' o' hρ' hm
      ·cases hq
     ·
      rename_i q0 n _ _
      obtain ⟨R,hR,hq⟩ := Option.bind_eq_some_iff.1 hq
      split at hq
      ·rename_i hcond
       simp only [Option.some.injEq,Prod.mk.injEq] at hq
       obtain ⟨rfl,rfl⟩ := hq
       obtain ⟨hn0,hb⟩ := hcond
       subst hn0
       obtain ⟨Rb,Rz,Rxs⟩ := R
       simp only at hb
       subst hb
       obtain ⟨ob0,ho0,hρ0⟩ := view_own (h.roots _ _ hR) hR hx.view_inv
       simp only [List.drop_zero,List.take_length] at ho0
       have hnm : names st.r (.view q0 0 Rxs.length) = [q0] := rfl
       rw [hnm]
       have hnb : NB E st ob0.toList [q0] := by
        cases ob0 with
        | none => exact NB.none _
        | some b => obtain ⟨o,hρ'⟩ := hρ0 b rfl; exact NB.one (by rw [hR]; rfl) hρ'
       refine ⟨ob0.toList ++ bs,.cons _ _ _ _ _ _ (.ios _ _ _ _ ho0) h1,hnb.append h h2,fun ho => ?_⟩
       cases ho with
       | data _ _ _ _ _ _ hna t => exact absurd rfl (hna.2 _ _)
       | ios _ _ _ ys1 b1 _ _ os ob hO hl t =>
         obtain ⟨em,a1,a2,a3⟩ := h3 t
         refine ⟨if b1.isNone then q0 :: em else em,.ios q0 Rz v Rxs ys1 b1 _ _ _ _ em hR hx.view_inv hO hl a1,fun q hq => ?_,fun hn q hq b' o' hρ' hm => ?_⟩
         ·split at hq
          ·rcases List.mem_cons.1 hq with rfl | hq
           ·exact ⟨by simp,by rw [hR]; rfl⟩
           ·exact ⟨List.mem_append_right _ (a2 q hq).1,(a2 q hq).2⟩
          ·exact ⟨List.mem_append_right _ (a2 q hq).1,(a2 q hq).2⟩
         ·have old : q ∈ em → False := fun hq => by
           rcases List.mem_append.1 hm with hm | hm
           ·exact hdisj hnb hn q (a2 q hq).1 b' o' (a2 q hq).2 hρ' hm
           ·exact a3 (List.nodup_append.1 hn).2.1 q hq b' o' hρ' hm
          split at hq
          ·rename_i hnone
           rcases List.mem_cons.1 hq with rfl | hq
           ·
            have hob0 : ob0 = none := by
             cases hO with
             | mk => simp at hnone
             | empty ad z =>
               rcases ho0.cap with h0 | ⟨b,o,n,cap,e,h0⟩
               ·exact h0
               ·simp only [Value.slice.injEq] at e
                exact absurd e.2.2.symm h0
            subst hob0
            simp only [Option.toList_none,List.nil_append] at hm
            obtain ⟨p',hp',hlv',o2,hρ2⟩ := h2.1 b' hm
            exact h.inj q p' b' o' b' o2 (by rw [hR]; rfl) hlv' hρ' hρ2 ((List.nodup_append.1 hn).2.2 q (by simp) p' hp') rfl
           ·exact old hq
          ·exact old hq
       | gone _ _ _ _ _ os ob t =>
         obtain ⟨em,a1,a2,a3⟩ := h3 t
         refine ⟨em,.gone q0 Rz Rxs _ _ _ _ em hR a1,fun q hq => ⟨List.mem_append_right _ (a2 q hq).1,(a2 q hq).2⟩,fun hn q hq b' o' hρ' hm => ?_⟩
         rcases List.mem_append.1 hm with hm | hm
         ·exact hdisj hnb hn q (a2 q hq).1 b' o' (a2 q hq).2 hρ' hm
         ·exact a3 (List.nodup_append.1 hn).2.1 q hq b' o' hρ' hm
      ·cases hq
     ·cases hq
end
end Go.Ab
namespace Go.Ab
section
variable {P : Program} {φ : Nat → Nat} {w0 : World} {L : Lent} {E E' : Env} {st st' : St} {ev ev' : Nat → Value} {w w' : World} {r r' : Nat → Option Root} {a : Act}
inductive LT (φ : Nat → Nat) (ρ : Nat → Option (Nat × Nat)) (w' : World) (K' : Nat → Prop) (r : Nat → Option Root) : List Nat → List A → List Nat → List Nat → Prop
 | nil : LT φ ρ w' K' r [] [] [] []
 | iob (q z b o : Nat) (y : A) (bs qs os mb fb : _) (hR : r q = some ⟨true,z,[reCell y (y.cells.map fun _ => .any)]⟩) (hρ : ρ q = some (b,o)) (hB : BoxRep φ w' K' (.pointer (some ⟨b,o,none⟩)) z y (b :: bs)) (hq : q ∉ qs)
    (t : LT φ ρ w' K' r qs os mb fb) : LT φ ρ w' K' r (q :: qs) (.iob z [y] :: os) (b :: mb) (bs ++ fb)
 | ios (q z : Nat) (ys : List A) (ob : Option Nat) (qs os mb fb : _) (t : LT φ ρ w' K' r qs os mb fb) : LT φ ρ w' K' r (q :: qs) (.ios z ys :: os) (ob.toList ++ mb) fb
 | gone (q : Nat) (qs os mb fb : _) (t : LT φ ρ w' K' r qs os mb fb) : LT φ ρ w' K' r (q :: qs) (.any :: os) mb fb
theorem view_at {q off n : Nat} {R : Root} {v : Value} (hv : RV1 φ E r w v (.view q off n)) (hR : r q = some R) : (∃ ad,v = .slice ad 0 0) ∨ ∃ b o cap,v = .slice (some ⟨b,o + off * R.z,none⟩) n cap ∧ E.ρ q = some (b,o) := by
 cases hv with
 | data _ _ h => cases h
 | viewN _ _ _ _ h1 => rw [h1] at hR; cases hR
 | viewE ad => exact .inl ⟨ad,rfl⟩
 | view b o cap q off n R2 h1 h2 h3 h4 h5 h6 h7 => rw [h1] at hR; cases hR; exact .inr ⟨b,o,cap,rfl,h6⟩
theorem blankAll_cells {y : A} : (reCell y (y.cells.map fun _ => .any)).cells = y.cells.map fun _ => .any :=
 reCell_cells (by simp) fun x hx l e => by
  obtain ⟨_,_,rfl⟩ := List.mem_map.1 hx
  cases e
theorem blanks_ok (h : SimE φ w0 L E st ev w) {K' : Nat → Prop} (room : ∀ b n,Room w b n → Room w' b n) : ∀ {qs : List Nat} {os : List A} {ns ob em : List Nat},LO φ E st w w' K' qs os ns ob em → ∀ {sti stB : St},
 ns.Nodup → (∀ p ∈ ns,sti.r p = st.r p) → blanks sti qs os = some stB →
 stB.t = sti.t ∧ (∀ p,p ∉ ns → stB.r p = sti.r p) ∧
 (∀ p R',p ∈ ns → stB.r p = some R' → (∃ R,st.r p = some R ∧ R'.b = R.b ∧ R'.z = R.z ∧ R'.xs.length = R.xs.length) ∧ (∀ r'',RootOk φ ⟨K',E.ρ⟩ r'' w' p R')) ∧ (∀ q ∈ qs,q ∈ ns) ∧
 ∃ mb fb,LT φ E.ρ w' K' stB.r qs os mb fb ∧ (∀ p R',p ∈ ns → stB.r p = some R' → p ∈ em ∨ ∀ b o,E.ρ p = some (b,o) → b ∈ mb) ∧
   (∀ b ∈ mb,b ∈ ob) ∧ (∀ b ∈ fb,b ∈ ob) ∧ (ob.Nodup → fb.Nodup ∧ ∀ b ∈ mb,b ∉ fb) := by
 intro qs os ns ob em hlo
 induction hlo with
 | nil =>
   intro sti stB hn hs hb
   simp [blanks] at hb; subst hb
   exact ⟨rfl,fun _ _ => rfl,(fun p R' hp => by cases hp),(fun q hq => by cases hq),[],[],.nil,(fun p R' hp => by cases hp),(fun b h => by cases h),(fun b h => by cases h),fun _ => ⟨List.nodup_nil,fun b h => by cases h⟩⟩
 | iob q z b o e y bs qs os ns ob em hR hρ hB t ih =>
   intro sti stB hn hs hb
   obtain ⟨hn1,hn2,hn3⟩ := List.nodup_append.1 hn
   obtain ⟨hn4,hn5⟩ := List.nodup_cons.1 hn1
   simp only [blanks] at hb
   rw [hs q (by simp),hR] at hb
   simp only [Option.bind_some] at hb
   have hqns : q ∉ ns := fun hq => hn3 q (by simp) q hq rfl
   obtain ⟨g1,g2,g3,g4,mb,fb,g5,g6,g7,g8,g9⟩ := ih hn2 (fun p hp => by
    have h1 : p ≠ q := fun e => hqns (e ▸ hp)
    have h2 : p ∉ e.cells.flatMap rootOf1 := fun hm => hn3 p (List.mem_cons_of_mem _ hm) p hp rfl
    simp only [h1,if_false]
    rw [if_neg (by simpa using h2)]
    exact hs p (List.mem_append_right _ hp)) hb
   have hq2 : stB.r q = some ⟨true,z,[reCell y (y.cells.map fun _ => .any)]⟩ := by rw [g2 q hqns]; simp
   have hq1000 : q < 1000 := by cases h.roots q _ hR; assumption
   have hroot : ∀ r'',RootOk φ ⟨K',E.ρ⟩ r'' w' q ⟨true,z,[reCell y (y.cells.map fun _ => .any)]⟩ := fun r'' => by
    cases hB with
    | mk _ _ _ _ vs _ hcr hcl hrm hz =>
      refine .box b o z _ vs hρ (by rw [blankAll_cells]; simpa using hz) hq1000 (by rw [blankAll_cells]; simpa using hcr.length) (fun c v x hv hx => ?_) hcl hrm
      rw [blankAll_cells] at hx
      simp only [List.getElem?_map,Option.map_eq_some_iff] at hx
      obtain ⟨x0,hx0,rfl⟩ := hx
      obtain ⟨b',hb'⟩ := hcr.get hv hx0
      exact .any _ hb'.one
   refine ⟨g1,fun p hp => ?_,fun p R' hp hR' => ?_,fun q' hq' => ?_,b :: mb,bs ++ fb,.iob q z b o y bs _ _ _ _ hq2 hρ hB (fun hq => hqns (g4 q hq)) g5,fun p R' hp hR' => ?_,fun b' hb' => ?_,fun b' hb' => ?_,fun hnd => ?_⟩
   ·simp only [List.mem_append,List.mem_cons,not_or] at hp
    rw [g2 p hp.2]
    simp only [hp.1.1,if_false]
    rw [if_neg (by simpa using hp.1.2)]
   ·by_cases e1 : p = q
    ·subst e1
     rw [hq2] at hR'; cases hR'
     exact ⟨⟨_,hR,rfl,rfl,rfl⟩,hroot⟩
    ·rcases List.mem_append.1 hp with hp | hp
     ·rcases List.mem_cons.1 hp with hp | hp
      ·exact absurd hp e1
      ·have hpn : p ∉ ns := fun hm => hn3 p (List.mem_cons_of_mem _ hp) p hm rfl
       rw [g2 p hpn] at hR'
       simp only [e1,if_false] at hR'
       rw [if_pos (by simpa using hp)] at hR'
       cases hR'
     ·exact g3 p R' hp hR'
   ·rcases List.mem_cons.1 hq' with rfl | hq'
    ·simp
    ·exact List.mem_append_right _ (g4 q' hq')
   ·by_cases e1 : p = q
    ·subst e1
     exact .inr fun b' o' hρ' => by rw [hρ] at hρ'; cases hρ'; simp
    ·rcases List.mem_append.1 hp with hp | hp
     ·rcases List.mem_cons.1 hp with hp | hp
      ·exact absurd hp e1
      ·have hpn : p ∉ ns := fun hm => hn3 p (List.mem_cons_of_mem _ hp) p hm rfl
       rw [g2 p hpn] at hR'
       simp only [e1,if_false] at hR'
       rw [if_pos (by simpa using hp)] at hR'
       cases hR'
     ·exact (g6 p R' hp hR').imp id fun h1 b' o' hρ' => List.mem_cons_of_mem _ (h1 b' o' hρ')
   ·rcases List.mem_cons.1 hb' with rfl | hb'
    ·simp
    ·exact List.mem_append_right _ (g7 b' hb')
   ·rcases List.mem_append.1 hb' with hb' | hb'
    ·exact List.mem_append_left _ (List.mem_cons_of_mem _ hb')
    ·exact List.mem_append_right _ (g8 b' hb')
   ·obtain ⟨m1,m2,m3⟩ := List.nodup_append.1 hnd
    obtain ⟨m4,m5⟩ := List.nodup_cons.1 m1
    obtain ⟨m6,m7⟩ := g9 m2
    refine ⟨List.nodup_append.2 ⟨m5,m6,fun x hx y hy => m3 x (List.mem_cons_of_mem _ hx) y (g8 y hy)⟩,fun b' hb' hm => ?_⟩
    rcases List.mem_cons.1 hb' with rfl | hb'
    ·rcases List.mem_append.1 hm with hm | hm
     ·exact m4 hm
     ·exact m3 _ (by simp) _ (g8 _ hm) rfl
    ·rcases List.mem_append.1 hm with hm | hm
     ·exact m3 _ (List.mem_cons_of_mem _ hm) _ (g7 _ hb') rfl
     ·exact m7 b' hb' hm
 | ios q z v xs ys ob1 qs os ns ob em hR hv ho hl t ih =>
   intro sti stB hn hs hb
   obtain ⟨hqns,hn2⟩ := List.nodup_cons.1 hn
   simp only [blanks] at hb
   obtain ⟨g1,g2,g3,g4,mb,fb,g5,g6,g7,g8,g9⟩ := ih hn2 (fun p hp => by
    have h1 : p ≠ q := fun e => hqns (e ▸ hp)
    simp only [St.setRoot,h1,if_false]
    exact hs p (List.mem_cons_of_mem _ hp)) hb
   have hq2 : stB.r q = some ⟨false,z,ys⟩ := by rw [g2 q hqns]; simp [St.setRoot]
   have hplace2 : ∀ b o n cap,v = .slice (some ⟨b,o,none⟩) n cap → cap ≠ 0 → E.ρ q = some (b,o) := by
    intro b o n cap hve h0
    rcases view_at hv hR with ⟨ad,h1⟩ | ⟨b2,o2,cap2,h1,h2⟩
    ·rw [h1] at hve; simp only [Value.slice.injEq] at hve; exact absurd hve.2.2.symm h0
    ·rw [h1] at hve
     simp only [Value.slice.injEq,Option.some.injEq,Addr.mk.injEq] at hve
     rw [h2,hve.1.1,← hve.1.2.1]; simp
   have hplace : ∀ b,ob1 = some b → ∃ o,E.ρ q = some (b,o) := by
    intro b e
    cases ho with
    | empty => cases e
    | mk b1 o cap z ys vs hc h0 hz hh hcl hrm => cases e; exact ⟨o,hplace2 _ _ _ _ rfl h0⟩
   have hroot : ∀ r'',RootOk φ ⟨K',E.ρ⟩ r'' w' q ⟨false,z,ys⟩ := fun r'' => by
    cases ho with
    | empty ad z =>
      cases hρ : E.ρ q with
      | none => exact .empty z hρ
      | some p =>
        obtain ⟨b,o⟩ := p
        refine .sl b o z [] [] hρ (fun x hx => by cases hx) .nil Cells.nil ?_
        cases h.roots q _ hR with
        | empty z h2 => rw [hρ] at h2; cases h2
        | sl b' o' z xs vs hρ' hz hh hcl hrm =>
          rw [hρ] at hρ'; cases hρ'
          exact room _ _ (hrm.le (by simp))
    | mk b1 o cap z ys vs hc h0 hz hh hcl hrm =>
      exact .sl b1 o z ys vs (hplace2 _ _ _ _ rfl h0) hz hh hcl (hrm.le (by have := Nat.mul_le_mul_right z hc; omega))
   refine ⟨g1,fun p hp => ?_,fun p R' hp hR' => ?_,fun q' hq' => ?_,ob1.toList ++ mb,fb,.ios q z ys ob1 _ _ _ _ g5,fun p R' hp hR' => ?_,fun b' hb' => ?_,fun b' hb' => List.mem_append_right _ (g8 b' hb'),fun hnd => ?_⟩
   ·simp only [List.mem_cons,not_or] at hp
    rw [g2 p hp.2]
    simp [St.setRoot,hp.1]
   ·rcases List.mem_cons.1 hp with rfl | hp
    ·rw [hq2] at hR'; cases hR'
     exact ⟨⟨_,hR,rfl,rfl,hl⟩,hroot⟩
    ·exact g3 p R' hp hR'
   ·rcases List.mem_cons.1 hq' with rfl | hq'
    ·simp
    ·exact List.mem_cons_of_mem _ (g4 q' hq')
   ·rcases List.mem_cons.1 hp with rfl | hp
    ·cases ob1 with
     | none => exact .inl (by simp)
     | some b =>
       refine .inr fun b' o' hρ' => ?_
       obtain ⟨o2,h2⟩ := hplace b rfl
       rw [h2] at hρ'; cases hρ'; simp
    ·rcases g6 p R' hp hR' with h1 | h1
     ·refine .inl ?_
      split
      ·exact List.mem_cons_of_mem _ h1
      ·exact h1
     ·exact .inr fun b' o' hρ' => List.mem_append_right _ (h1 b' o' hρ')
   ·rcases List.mem_append.1 hb' with hb' | hb'
    ·exact List.mem_append_left _ hb'
    ·exact List.mem_append_right _ (g7 b' hb')
   ·obtain ⟨m1,m2,m3⟩ := List.nodup_append.1 hnd
    obtain ⟨m6,m7⟩ := g9 m2
    refine ⟨m6,fun b' hb' hm => ?_⟩
    rcases List.mem_append.1 hb' with hb' | hb'
    ·exact m3 _ hb' _ (g8 _ hm) rfl
    ·exact m7 b' hb' hm
 | gone q z xs qs os ns ob em hR t ih =>
   intro sti stB hn hs hb
   obtain ⟨hqns,hn2⟩ := List.nodup_cons.1 hn
   simp only [blanks] at hb
   obtain ⟨g1,g2,g3,g4,mb,fb,g5,g6,g7,g8,g9⟩ := ih hn2 (fun p hp => by
    have h1 : p ≠ q := fun e => hqns (e ▸ hp)
    simp only [St.setRoot,h1,if_false]
    exact hs p (List.mem_cons_of_mem _ hp)) hb
   have hq2 : stB.r q = none := by rw [g2 q hqns]; simp [St.setRoot]
   refine ⟨g1,fun p hp => ?_,fun p R' hp hR' => ?_,fun q' hq' => ?_,mb,fb,.gone q _ _ _ _ g5,fun p R' hp hR' => ?_,g7,g8,g9⟩
   ·simp only [List.mem_cons,not_or] at hp
    rw [g2 p hp.2]
    simp [St.setRoot,hp.1]
   ·rcases List.mem_cons.1 hp with rfl | hp
    ·rw [hq2] at hR'; cases hR'
    ·exact g3 p R' hp hR'
   ·rcases List.mem_cons.1 hq' with rfl | hq'
    ·simp
    ·exact List.mem_cons_of_mem _ (g4 q' hq')
   ·rcases List.mem_cons.1 hp with rfl | hp
    ·rw [hq2] at hR'; cases hR'
    ·exact g6 p R' hp hR'
theorem LT.imp {ρ ρ' : Nat → Option (Nat × Nat)} {K' : Nat → Prop} : ∀ {qs : List Nat} {os : List A} {mb fb : List Nat},LT φ ρ w' K' r qs os mb fb → (∀ q ∈ qs,∀ z x,r q = some ⟨true,z,[x]⟩ → r' q = some ⟨true,z,[x]⟩ ∧ ρ' q = ρ q) →
 LT φ ρ' w' K' r' qs os mb fb := by
 intro qs os mb fb h
 induction h with
 | nil => intro _; exact .nil
 | iob q z b o y bs qs os mb fb hR hρ hB hq t ih =>
   intro hs
   have h1 := hs q (by simp) _ _ hR
   exact .iob q z b o y bs qs os mb fb h1.1 (h1.2.trans hρ) hB hq (ih fun q' hq' => hs q' (List.mem_cons_of_mem _ hq'))
 | ios q z ys ob qs os mb fb t ih =>
   intro hs
   exact .ios q z ys ob qs os mb fb (ih fun q' hq' => hs q' (List.mem_cons_of_mem _ hq'))
 | gone q qs os mb fb t ih =>
   intro hs
   exact .gone q qs os mb fb (ih fun q' hq' => hs q' (List.mem_cons_of_mem _ hq'))
theorem CellOk.setRoot {q c : Nat} {R : Option Root} {v : Value} {x : A} (h : CellOk φ E st.r w q c v x) : CellOk φ E (st.setRoot q R).r w q c v x := by
 cases h with
 | data _ h ha => exact .data _ _ h ha
 | any h => exact .any _ h
 | view off n hc h hv =>
   have hne : sub q c ≠ q := by
    intro e; simp only [sub] at e; omega
   exact .view _ _ _ hc (h.weakView fun R' hR => ⟨by simpa [St.setRoot,hne] using hR,rfl⟩) hv
theorem takeOuts_ok {K' : Nat → Prop} : ∀ {os : List A} {qs mb fb : List Nat} {E : Env} {st1 st2 : St},SimE φ w0 L E st1 ev w' → E.ok = K' → LT φ E.ρ w' K' st1.r qs os mb fb → fb.Nodup → (∀ b ∈ fb,Fresh w0 L E st1 ev w' b) → takeOuts st1 qs os = some st2 →
 ∃ E2,SimE φ w0 L E2 st2 ev w' ∧ E2.ok = K' ∧ ∀ b,b ∉ fb → Fresh w0 L E st1 ev w' b → Fresh w0 L E2 st2 ev w' b
 | [],qs,mb,fb,E,st1,st2,h,hK,hl,hn,hF,ht => by
   cases hl
   simp [takeOuts] at ht; subst ht
   exact ⟨E,h,hK,fun _ _ hf => hf⟩
 | x :: os,qs,mb,fb,E,st1,st2,h,hK,hl,hn,hF,ht => by
   cases hl with
   | ios q z ys ob qs _ mb _ t =>
     simp only [takeOuts] at ht
     exact takeOuts_ok h hK t hn hF ht
   | gone q qs _ mb fb t =>
     simp only [takeOuts] at ht
     exact takeOuts_ok h hK t hn hF ht
   | iob q z b o y bs qs _ mb fb hR hρ hB hq t =>
     simp only [takeOuts] at ht
     split at ht
     ·rename_i hlen
      obtain ⟨⟨cs,s⟩,hs,ht⟩ := Option.bind_eq_some_iff.1 ht
      obtain ⟨n1,n2,n3⟩ := List.nodup_append.1 hn
      cases hB with
      | mk _ _ _ _ vs _ hcr hcl hrm hz =>
        have hq1000 : q < 1000 := by cases h.roots q _ hR; assumption
        subst hK
        obtain ⟨E1,h1,hst,hok,hle,hall,hfr⟩ := h.takes hs hcr n1 (fun b' hb' => hF b' (List.mem_append_left _ hb')) (by omega) (fun c' a1 a2 p' R' hp hb x hx y' hy => by
         cases hr : refs1 (sub q c') y' with
         | false => rfl
         | true =>
           obtain ⟨c2,hc2,e2,hx2⟩ := h.cell_ref hp hb hx hy hr
           obtain ⟨e3,e4⟩ := sub_inj (by omega) hc2 e2
           subst e3; subst e4
           rw [hR] at hp; cases hp
           rw [List.mem_singleton] at hx; subst hx
           rw [blankAll_cells,List.getElem?_map,Option.map_eq_some_iff] at hx2
           obtain ⟨_,_,rfl⟩ := hx2
           cases hr)
        have hnS : ∀ p,p < 1000 → ¬ ∃ c',0 ≤ c' ∧ c' < 0 + y.cells.length ∧ p = sub q c' := fun p hp ⟨c',_,_,e⟩ => by have := sub_ge q c'; omega
        have hR1 := hst.b q _ (hnS q hq1000) hR rfl
        have hρ1 := (hst.ρ q (hnS q hq1000)).trans hρ
        have hlv := hcr.length
        have hna : ∀ y ∈ cs,∀ l,y ≠ .agg l := fun y' hy' => by
         obtain ⟨c,hc⟩ := List.mem_iff_getElem?.1 hy'
         have hcl' : c < vs.length := by
          rcases Nat.lt_or_ge c cs.length with h | h
          ·omega
          ·simp [List.getElem?_eq_none h] at hc
         exact (hall c vs[c] y' (by simp) hc).nagg
        have hrc : (reCell y cs).cells = cs := reCell_cells hle hna
        have h2 := h1.reroot (R' := ⟨true,z,[reCell y cs]⟩) hR1 hρ1 ⟨rfl,rfl,rfl⟩ (.box b o z _ vs hρ1 (by rw [hrc,hle,hz]) hq1000 (by rw [hrc,hle,hlv]) (fun c u y' hu hy' => by
         have := hall c u y' hu (by rw [hrc] at hy'; exact hy')
         rw [Nat.zero_add] at this
         exact this.setRoot) hcl hrm)
        have hfr2 : ∀ b',Fresh w0 L E1 s ev w' b' → Fresh w0 L E1 (s.setRoot q (some ⟨true,z,[reCell y cs]⟩)) ev w' b' := fun b' hf => ⟨hf.z,fun q' b2 o' a1 a2 => hf.r q' b2 o' (by
         by_cases e : q' = q
         ·subst e; rw [hR1]; rfl
         ·simpa [St.setRoot,e] using a1) a2,hf.t⟩
        obtain ⟨E2,h3,hok2,hfr3⟩ := takeOuts_ok h2 hok (t.imp fun q' hq' z' x' hr' => by
         have hne : q' ≠ q := fun e => hq (e ▸ hq')
         have hq'1000 : q' < 1000 := by cases h.roots q' _ hr'; assumption
         refine ⟨?_,hst.ρ q' (hnS q' hq'1000)⟩
         simp only [St.setRoot,hne,if_false]
         exact hst.b q' _ (hnS q' hq'1000) hr' rfl) n2 (fun b' hb' => hfr2 b' (hfr b' (fun hm => n3 b' hm b' hb' rfl) (hF b' (List.mem_append_right _ hb')))) ht
        exact ⟨E2,h3,hok2,fun b' hb' hf => hfr3 b' (fun hm => hb' (List.mem_append_right _ hm)) (hfr2 b' (hfr b' (fun hm => hb' (List.mem_append_left _ hm)) hf))⟩
     ·cases ht
end
end Go.Ab
namespace Go.Ab
section
variable {P : Program} {φ : Nat → Nat} {w0 : World} {L : Lent} {E E' : Env} {st st' : St} {ev ev' : Nat → Value} {w w' : World} {r r' : Nat → Option Root} {a : Act}
def evL (ev : Nat → Value) (vs : List Value) : Nat → Value := fun i => if gs ≤ i then (vs[i - gs]?).getD undef else ev i
theorem SimE.lay (h : SimE φ w0 L E st ev w) {vs : List Value} {xs : List A} (hv : All2 (fun v x => RV φ E st.r w v x ∧ ∀ k b,Tk v x k b → ∃ i,Tk (ev i) (st.t i) k b) vs xs) : SimE φ w0 L E (st.lay xs) (evL ev vs) w :=
 h.weak (fun _ _ h => h) (fun j => by
  simp only [St.lay,evL]
  split
  ·cases hx : xs[j - gs]? with
   | none => exact .one _ _ (.any _)
   | some x =>
     obtain ⟨v,hv',h1⟩ := hv.get hx
     rw [hv']
     exact h1.1
  ·exact h.slots j) (fun j k b ht => by
  simp only [St.lay,evL] at ht
  split at ht
  ·cases hx : xs[j - gs]? with
   | none => rw [hx] at ht; exact (noTk_any _ _ ht).elim
   | some x =>
     obtain ⟨v,hv',h1⟩ := hv.get hx
     rw [hx,hv'] at ht
     exact h1.2 k b ht
  ·exact ⟨j,ht⟩)
theorem SimE.unlay {vs : List Value} (h : SimE φ w0 L E st (evL ev vs) w) : SimE φ w0 L E (st.lay []) ev w :=
 h.weak (fun _ _ h => h) (fun j => by
  simp only [St.lay]
  split
  ·exact .one _ _ (.any _)
  ·rename_i hj
   have := h.slots j
   simpa [evL,hj] using this) (fun j k b ht => by
  simp only [St.lay] at ht
  split at ht
  ·exact (noTk_any _ _ ht).elim
  ·rename_i hj
   exact ⟨j,by simpa [evL,hj] using ht⟩)
theorem SimE.put'V (h : SimE φ w0 L E st ev w) {i : Nat} {x : A} (hv : RV φ E st.r w (ev i) x) (hn : ∀ k b,¬ Tk (ev i) x k b) : SimE φ w0 L E (st.put' i x) ev w :=
 h.weak (fun _ _ h => h) (fun j => by
  simp only [St.put']
  split
  ·rename_i e; rw [e]; exact hv
  ·exact h.slots j) (fun j k b ht => by
  simp only [St.put'] at ht
  split at ht
  ·rename_i e; rw [e] at ht; exact (hn k b ht).elim
  ·exact ⟨j,ht⟩)
theorem SimE.noRef3 (h : SimE φ w0 L E st ev w) (d : Nat) : ∀ p' R',st.r p' = some R' → R'.b = true → ∀ x ∈ R'.xs,∀ y ∈ x.cells,refs1 (own3 d) y = false := fun p' R' hp hb x hx y hy => by
 cases hr : refs1 (own3 d) y with
 | false => rfl
 | true =>
   obtain ⟨c,hc,e,_⟩ := h.cell_ref hp hb hx hy hr
   have hp' : p' < 1000 := by
    cases h.roots p' R' hp with
    | empty => cases hb
    | sl => cases hb
    | box b o z e vs hρ hz hlt => exact hlt
   simp only [own3,sub] at e; omega
theorem Lent.own3 {L : Lent} {d : Nat} : L.pl (Ab.own3 d) = none := by
 cases h : L.pl (Ab.own3 d) with
 | none => rfl
 | some p => have := L.lt _ _ h; simp only [Ab.own3] at this; omega
theorem SimE.own1 (h : SimE φ w0 L E st ev w) (j : Nat) : ∃ E',SimE φ w0 L E' (st.own1 j) ev w := by
 unfold St.own1
 have hs := h.slots (gs + j)
 split
 ·rename_i k z xs e
  rw [e] at hs
  obtain ⟨E1,h1,_,h2⟩ := h.rootTok (q := Ab.own3 j) hs.tok_inv (fun b ht => ⟨gs + j,by rw [e]; exact .one _ _ _ _ ht⟩) Lent.own3 (h.noRef3 j)
  exact ⟨E1,h1.put'V (.one _ _ h2) noTk_view⟩
 ·rename_i z e
  rw [e] at hs
  have e2 := hs.nils_inv
  have h1 := (h.kill (Ab.own3 j)).unroot (Ab.own3 j)
  have h2 := h1.root (p := none) (R := ⟨false,z,[]⟩) (by simp [St.setRoot]) (fun i => refs_kill _ _) (h1.noRef3 j) (fun _ _ e => by cases e) (fun p' e => by rw [Lent.own3] at e; cases e) (.empty z (by simp))
  rw [setRoot_twice] at h2
  exact ⟨_,h2.put'V (by rw [e2]; exact .one _ _ (.viewE none _ 0 ⟨false,z,[]⟩ (by simp [St.setRoot]) rfl (Nat.zero_le _))) noTk_view⟩
 ·exact ⟨E,h⟩
theorem SimE.pinAll : ∀ {n : Nat} {bs : List Bool} {j : Nat} {E : Env} {st st1 : St},SimE φ w0 L E st ev w → st.pinAll bs j n = some st1 → ∃ E',SimE φ w0 L E' st1 ev w
 | 0,bs,j,E,st,st1,h,hp => by
   have : st1 = st := by
    cases bs with
    | nil => simp [St.pinAll] at hp; exact hp.symm
    | cons b bs => cases b <;> (simp [St.pinAll] at hp; exact hp.symm)
   subst this; exact ⟨E,h⟩
 | n + 1,[],j,E,st,st1,h,hp => by
   simp only [St.pinAll] at hp
   obtain ⟨s,hs,hp⟩ := Option.bind_eq_some_iff.1 hp
   obtain ⟨E1,h1,_⟩ := h.pinN hs
   exact h1.pinAll hp
 | n + 1,true :: bs,j,E,st,st1,h,hp => by
   simp only [St.pinAll] at hp
   obtain ⟨E1,h1⟩ := h.own1 j
   exact h1.pinAll hp
 | n + 1,false :: bs,j,E,st,st1,h,hp => by
   simp only [St.pinAll] at hp
   obtain ⟨s,hs,hp⟩ := Option.bind_eq_some_iff.1 hp
   obtain ⟨E1,h1,_⟩ := h.pinN hs
   exact h1.pinAll hp
section
variable {o : Oper} {next : Act → World → Prop} {Q : Exit → Act → World → Prop} {cf : CF} {io : Nat → List Bool}
theorem rv1_noTk {v : Value} {x : A} (h : RV1 φ E r w v x) (hn : anyTok x = false) (k b : Nat) : ¬ Tk v x k b := by
 intro ht
 cases ht with
 | one _ _ _ _ ht => cases ht; cases hn
 | tup => cases h with | data _ _ h => cases h
 | agg us zs j k b v' a' hv1 ha1 hk =>
   generalize hu : Value.agg us.toArray = u at h
   cases h with
   | data _ _ h1 => subst hu; exact absurd (.agg us zs j k b v' a' hv1 ha1 hk) (Tk.of_rep h1)
theorem landR_cases {d : Option Nat} {rs : List A} (he : landR st d rs = some st') :
 (∃ z x i st3,rs = [.iob z [x]] ∧ d = some i ∧ takeVar st i z x = some st3 ∧ st' = st3.put (some i) (.loc i 0 0)) ∨ (rs.any isIob = false ∧ st' = st.put d (packR (d.getD 0) rs)) := by
 unfold landR at he
 split at he
 ·obtain ⟨st3,ht3,rfl⟩ := Option.map_eq_some_iff.1 he
  exact .inl ⟨_,_,_,st3,rfl,rfl,ht3,rfl⟩
 ·split at he
  ·cases he
  ·rename_i hio
   simp only [Option.some.injEq] at he
   exact .inr ⟨by simpa using hio,he.symm⟩
theorem w_call (h : Sim φ w0 L E st a w) (hcf : CfG P φ w0 L cf) {f : Operand} {args : Array Operand} {tys : Array TypeId} {f' : Opd} {args' : List Opd} (ho : o.op = .call ⟨.value f,args,tys⟩) (hf : chkOpd φ f f' = true)
 (ha : chkOpds φ args.toList args' = true) (hd : ∀ i,o.dst = some i → i < a.tmps.size) (hdl : ∀ i,o.dst = some i → L.pl i = none) (he : stepW cf io o.dst st (.call f' args') = some st')
 (hn : ∀ E' v w',Sim φ w0 L E' st' (a.put o.dst v) w' → next (a.put o.dst v) w') : o.wp P a w next Q := by
 have hfv := opd_ok h hf
 simp only [stepW] at he
 split at he
 ·rename_i g caps e1
  rw [e1] at hfv
  obtain ⟨cv,hev,hcaps,hcn⟩ := hfv.1.fn_inv'
  obtain ⟨st1,hp,he⟩ := Option.bind_eq_some_iff.1 he
  obtain ⟨⟨ls,qs,ns⟩,hl,he⟩ := Option.bind_eq_some_iff.1 he
  simp only at he
  split at he
  ·rename_i hnd
   have hnd : ns.Nodup := by simpa using hnd
   obtain ⟨as,has,he⟩ := Option.bind_eq_some_iff.1 he
   obtain ⟨⟨res,outs⟩,hres,he⟩ := Option.bind_eq_some_iff.1 he
   simp only at he
   obtain ⟨st2,hgb,he⟩ := Option.bind_eq_some_iff.1 he
   obtain ⟨stB,hbl,hto⟩ := Option.bind_eq_some_iff.1 hgb
   have hall : All2 (fun v x => RV φ E st.r w v x ∧ ∀ k b,Tk v x k b → ∃ i,Tk (a.eval (.tmp i)) (st.t i) k b) (args.toList.map a.eval ++ cv) (args'.map (Opd.v st) ++ caps) :=
    (opds_all2 h ha).append ⟨hcaps.1,fun j v x hv hx => ⟨.one _ _ (hcaps.2 j v x hv hx),fun k b ht => (rv1_noTk (hcaps.2 j v x hv hx) (hcn x (List.mem_of_getElem? hx)) k b ht).elim⟩⟩
   generalize hvals : args.toList.map a.eval ++ cv = vals at hall
   have hN : args'.length + caps.length = vals.length := by have := hall.1; simp at this; omega
   rw [hN] at hp hl has
   obtain ⟨E1,h1⟩ := (h.toSimE.lay hall).pinAll hp
   have hxs : All2 (RV φ E1 st1.r w) vals ((List.range vals.length).map fun j => st1.t (gs + j)) := by
    refine ⟨by simp,fun j v x hv hx => ?_⟩
    simp only [List.getElem?_map,Option.map_eq_some_iff] at hx
    obtain ⟨j',hj',rfl⟩ := hx
    have hjl : j < vals.length := by
     rcases Nat.lt_or_ge j vals.length with h' | h'
     ·exact h'
     ·simp [List.getElem?_eq_none h'] at hv
    rw [List.getElem?_range hjl] at hj'
    simp only [Option.some.injEq] at hj'; subst hj'
    have := h1.slots (gs + j)
    simp only [evL] at this
    rw [if_pos (by omega),show gs + j - gs = j from by omega,hv] at this
    exact this
   obtain ⟨bs,hargs,hnb,hlo⟩ := args_ok h1 hxs hl has
   obtain ⟨hent,hok⟩ := hcf.1 g as res outs hres
   unfold Oper.wp
   rw [run_call ho rfl hev hent,Oper.upon_enter]
   have hvs : (args.map a.eval ++ cv.toArray) = vals.toArray := by rw [← hvals]; apply Array.ext'; simp
   rw [hvs]
   have hbs : ∀ b ∈ bs,¬ E1.ok b ∧ Zone w0 L b ∧ b < w.heap.size := fun b hb => by
    obtain ⟨p,_,hlv,o',hρ⟩ := hnb.1 b hb
    exact h1.rz p b o' hlv hρ
   refine (hok w E1.ok vals bs hargs (hnb.2 hnd) (fun b hb => (hbs b hb).1) h1.okz (hcf.2.at h1 fun _ hb => hb)).mono fun e w' ⟨v,hev',hback⟩ => ?_
   subst hev'
   obtain ⟨rvs,K',rb,ob,rfl,hKK,hK',hrr,hout,hndb,hblk⟩ := hback.rest
   obtain ⟨em,hlo1,hem1,hem2⟩ := hlo hout
   have hU := h1.unlay
   obtain ⟨g1,g2,g3,_,mb,fb,g5,g6,g7,g8,g9⟩ := blanks_ok h1 hback.room hlo1 (sti := st1.lay []) hnd (fun _ _ => rfl) hbl
   have hBt : stB = { st1.lay [] with r := stB.r } := by cases stB; simp only at g1; subst g1; rfl
   have W : Wm w0 L E1 ⟨K',E1.ρ⟩ (st1.lay []).r stB.r w w' (· ∈ bs) := {
    same := fun b hb hn => hback.frame b hb hn
    size := hback.grow,env := hback.env,fr := hback.fr,room := hback.room,ρ := rfl,ok := hKK
    new := fun b hb => by
     rcases hK' b hb with h1 | h1 | h1
     ·exact .inl h1
     ·exact .inr (.inl ⟨h1,Nat.lt_of_lt_of_le (hbs b h1).2.2 hback.grow⟩)
     ·exact .inr (.inr h1)
    nok := fun b hb => (hbs b hb).1
    zone := fun b hb => (hbs b hb).2.1
    sh := fun q R' hq => by
     by_cases hm : q ∈ ns
     ·exact (g3 q R' hm hq).1
     ·rw [g2 q hm] at hq; exact ⟨R',hq,rfl,rfl,rfl⟩ }
   have htkb : ∀ i k b,Tk (a.eval (.tmp i)) ((st1.lay []).t i) k b → b ∉ bs := fun i k b ht hb => by
    obtain ⟨p,_,hlv,o',hρ⟩ := hnb.1 b hb
    exact (hU.tz i k b ht).2 p b o' hlv hρ rfl
   have hB : SimE φ w0 L ⟨K',E1.ρ⟩ stB (fun i => a.eval (.tmp i)) w' := by
    rw [hBt]
    refine hU.back W htkb (fun q b o' hlv hρ hb hk => ?_) fun q R' hq => ?_
    ·obtain ⟨R',hR'⟩ := Option.isSome_iff_exists.1 hlv
     by_cases hm : q ∈ ns
     ·rcases g6 q R' hm hR' with h5 | h5
      ·exact hem2 hnd q h5 b o' hρ hb
      ·exact (hblk b (List.mem_append_right _ (g7 b (h5 b o' hρ)))).1 hk
     ·rw [g2 q hm] at hR'
      obtain ⟨p,hp',hlv2,o2,hρ2⟩ := hnb.1 b hb
      exact h1.inj q p b o' b o2 (by rw [show st1.r q = some R' from hR']; rfl) hlv2 hρ hρ2 (fun e => hm (e ▸ hp')) rfl
    by_cases hm : q ∈ ns
    ·exact .inr ((g3 q R' hm hq).2 _)
    ·rw [g2 q hm] at hq
     refine .inl ⟨hq,fun b o' hρ hb => ?_⟩
     obtain ⟨p,hp',hlv,o2,hρ2⟩ := hnb.1 b hb
     exact h1.inj q p b o' b o2 (by rw [show st1.r q = some R' from hq]; rfl) hlv hρ hρ2 (fun e => hm (e ▸ hp')) rfl
   obtain ⟨n1,n2,n3⟩ := List.nodup_append.1 hndb
   obtain ⟨n4,n5⟩ := g9 n2
   have hfresh : ∀ b,b ∈ rb ++ ob → (b ∈ rb ∨ b ∈ fb) → Fresh w0 L ⟨K',E1.ρ⟩ stB (fun i => a.eval (.tmp i)) w' b := by
    intro b hb hb2
    obtain ⟨k1,k2,k3⟩ := hblk b hb
    refine ⟨⟨k1,?_,k2⟩,fun q b' o' hlv hρ e => ?_,fun i k b' ht e => ?_⟩
    ·rcases k3 with k3 | k3
     ·exact (hbs b k3).2.1
     ·exact .inl (Nat.le_trans h.grow k3)
    ·subst e
     obtain ⟨R',hR'⟩ := Option.isSome_iff_exists.1 hlv
     by_cases hm : q ∈ ns
     ·obtain ⟨R,hR,_⟩ := (g3 q R' hm hR').1
      have hql : (st1.r q).isSome = true := by rw [hR]; rfl
      rcases g6 q R' hm hR' with h5 | h5
      ·have := hem2 hnd q h5 b' o' hρ
       rcases k3 with k3 | k3
       ·exact this k3
       ·have := (h1.rz q b' o' hql hρ).2.2; omega
      ·have hmb := h5 b' o' hρ
       rcases hb2 with hb2 | hb2
       ·exact n3 _ hb2 _ (g7 _ hmb) rfl
       ·exact n5 _ hmb hb2
     ·have hq1 : st1.r q = some R' := by have := g2 q hm; rw [hR'] at this; exact this.symm
      have hql : (st1.r q).isSome = true := by rw [hq1]; rfl
      rcases k3 with k3 | k3
      ·obtain ⟨p,hp',hlv',o2,hρ2⟩ := hnb.1 b' k3
       exact h1.inj q p b' o' b' o2 hql hlv' hρ hρ2 (fun e => hm (e ▸ hp')) rfl
      ·have := (h1.rz q b' o' hql hρ).2.2; omega
    ·subst e
     have ht2 : Tk (a.eval (.tmp i)) ((st1.lay []).t i) k b' := by rw [← g1]; exact ht
     rcases k3 with k3 | k3
     ·exact htkb i k b' ht2 k3
     ·have := (hU.tz i k b' ht2).1.2.2; omega
   obtain ⟨E2,h2,hok2,hfr2⟩ := takeOuts_ok (K' := K') hB rfl g5 n4 (fun b hb => hfresh b (List.mem_append_right _ (g8 b hb)) (.inr hb)) hto
   have hfrb : ∀ b ∈ rb,Fresh w0 L E2 st2 (fun i => a.eval (.tmp i)) w' b := fun b hb => hfr2 b (fun hm => n3 b hb b (g8 b hm) rfl) (hfresh b (List.mem_append_left _ hb) (.inl hb))
   have hS2 : Sim φ w0 L E2 st2 a w' := ⟨h2,h.nodef⟩
   rw [← hok2] at hrr
   rcases landR_cases he with ⟨z,x,d,st3,hr1,hd1,ht3,hst⟩ | ⟨hio,hst⟩
   ·subst hr1; subst hst
    cases hrr with
    | cons v0 _ b0 vs0 _ bs0 hr0 ht0 =>
      cases ht0
      cases hr0 with
      | data _ hh => cases hh
      | iob _ _ _ hbox =>
        obtain ⟨E3,h3,_,hrv,_⟩ := h2.takeVar ht3 hbox (by simpa using n1) (fun b hb => hfrb b (by simpa using hb)) (fun p' e => by rw [hdl d hd1] at e; cases e)
        rw [hd1] at hn ⊢
        have hS3 : Sim φ w0 L E3 st3 a w' := ⟨h3,h.nodef⟩
        exact hn E3 _ w' (hS3.put (hd d hd1) (.one _ _ hrv) ((Copy.scalar noTk_loc).tok hS3))
   ·subst hst
    have hlr := land_rv (w0 := w0) (L := L) (st := st2) (a := a) (E' := E2) hrr n1 (fun b hb => ⟨(hfrb b hb).z,(hfrb b hb).r⟩) (fun b hb => (hfrb b hb).t) hio (fun _ _ _ hh => hh) (o.dst.getD 0)
    exact hn E2 _ w' (hS2.put' hd hlr.1 hlr.2)
  ·cases he
 ·cases he
theorem stepW_sound (hcf : CfG P φ w0 L cf) (h : Sim φ w0 L E st a w) {x : O} (hc : chkO P φ o.op x = true) (hd : ∀ i,o.dst = some i → i < a.tmps.size) (hdl : ∀ i,o.dst = some i → L.pl i = none) (he : stepW cf io o.dst st x = some st')
 (hn : ∀ E' v w',Sim φ w0 L E' st' (a.put o.dst v) w' → next (a.put o.dst v) w') : o.wp P a w next Q := by
 generalize hop : o.op = op at hc
 unfold chkO at hc
 split at hc <;> (try (cases hc; done)) <;> (try simp only [Bool.and_eq_true] at hc) <;> first
  | exact w_asg h hop hc hd hdl he hn
  | exact w_alloc h hop hc hd hdl he hn
  | exact w_box h hop hc hd hdl he hn
  | exact w_sto h hop hc.1.1 hc.1.2 hc.2 hd he hn
  | exact w_ia h hop hc.1.1 hc.1.2 hc.2 hd he hn
  | exact w_call h hcf hop hc.1 hc.2 hd hdl he hn
  | (simp only [stepW] at he; cases he; done)
  | skip
 ·obtain ⟨⟨hnm,hz⟩,hp⟩ := hc
  simp only [beq_iff_eq] at hnm; subst hnm
  split at hz
  ·rename_i e ht
   exact w_bsl h hop ht hz hp hd he hn
  ·cases hz
 ·rename_i b args tys x'
  unfold chkBuiltin at hc
  split at hc <;> (try (cases hc; done)) <;> (try simp only [Bool.and_eq_true] at hc) <;> first
   | (simp only [stepW] at he; cases he; done)
   | skip
  rename_i hargs htys
  obtain ⟨⟨h1,h2⟩,h3⟩ := hc
  split at h3
  ·rename_i e e2 ht hu
   split at h3
   ·rename_i i hi
    simp only [Bool.and_eq_true,beq_iff_eq] at h3
    obtain ⟨⟨h4,h5⟩,h6⟩ := h3
    split at h6
    ·rename_i zv hzv
     simp only [beq_iff_eq] at h6
     rw [list2 hargs,list2 htys] at hop
     exact w_app h hop h1 h2 ht hu hi h4 h5 hzv h6 hd he hn
    ·cases h6
   ·cases h3
  ·cases h3
end
end
end Go.Ab
namespace Go.Ab
def Fix (q : Option Nat) (v : A) : Prop := (pure v = true ∨ v = .any) ∨ ∃ p i c,q = some p ∧ (v = .loc p i c ∨ v = .view p i c)
structure Var (q : Option Nat) (d : Option Nat) (st : St) : Prop where
 lt : ∀ p,q = some p → p < 1000
 ne : ∀ p,q = some p → d ≠ some p
 b : ∀ p,q = some p → ∃ R,st.r p = some R ∧ R.b = true
theorem pureC_rootOf {a : A} (h : pureC a = true) (r : Nat) : refs1 r a = false := by cases a <;> first | rfl | simp [pureC] at h
theorem pureC_isTok {a : A} (h : pureC a = true) (k : Nat) : isTok1 k a = false := by cases a <;> first | rfl | simp [pureC] at h
theorem map_fix {f : A → A} {cs : List A} (h : ∀ c ∈ cs,f c = c) : cs.map f = cs := by
 induction cs with
 | nil => rfl
 | cons c cs ih => rw [List.map_cons,h c (by simp),ih fun x hx => h x (by simp [hx])]
theorem comps_pure {f : A → A} (hf : ∀ a,pureC a = true → f a = a) {v : A} (h : pure v = true) : comps f v = v := by
 cases v <;> first
  | (simp only [pure] at h; exact hf _ h)
  | (simp [pure,pureC] at h; done)
  | skip
 ·rename_i cs
  simp only [pure,List.all_eq_true] at h
  simp only [comps,map_fix fun c hc => hf c (h c hc)]
 ·rename_i g caps
  simp only [pure,pureC,List.isEmpty_iff] at h
  subst h; rfl
theorem kill1_pure (r : Nat) (a : A) (h : pureC a = true) : kill1 r a = a := by simp [kill1,pureC_rootOf h]
theorem killTok1_pure (k : Nat) (a : A) (h : pureC a = true) : killTok1 k a = a := by simp [killTok1,pureC_isTok h]
theorem unTok1_pure (k : Nat) (a : A) (h : pureC a = true) : unTok1 k a = a := by cases a <;> first | rfl | simp [pureC] at h
theorem unRoot1_pure (r : Nat) (R : Root) (a : A) (h : pureC a = true) : unRoot1 r R a = a := by cases a <;> first | rfl | simp [pureC] at h
section
variable {q d : Option Nat} {st : St} {v : A} {s : Nat}
theorem Fix.kill (h : Fix q v) {r : Nat} (hr : ∀ p,q = some p → r ≠ p) : comps (kill1 r) v = v := by
 rcases h with (h | rfl) | ⟨p,i,c,hq,rfl | rfl⟩
 ·exact comps_pure (kill1_pure r) h
 ·rfl
 ·have := hr p hq
  have e : refs1 r (.loc p i c) = false := by simp only [refs1,beq_eq_false_iff_ne]; exact fun e => this e.symm
  simp [comps,kill1,e]
 ·have := hr p hq
  have e : refs1 r (.view p i c) = false := by simp only [refs1,beq_eq_false_iff_ne]; exact fun e => this e.symm
  simp [comps,kill1,e]
theorem Fix.killTok (h : Fix q v) (k : Nat) : comps (killTok1 k) v = v := by
 rcases h with (h | rfl) | ⟨p,i,c,hq,rfl | rfl⟩
 ·exact comps_pure (killTok1_pure k) h
 ·rfl
 ·rfl
 ·rfl
theorem Fix.unTok (h : Fix q v) (k : Nat) : Ab.unTok k v = v := by
 rcases h with (h | rfl) | ⟨p,i,c,hq,rfl | rfl⟩
 ·exact comps_pure (unTok1_pure k) h
 ·rfl
 ·rfl
 ·rfl
theorem Fix.unRoot (h : Fix q v) {r : Nat} (R : Root) (hr : ∀ p,q = some p → r ≠ p) : Ab.unRoot r R v = v := by
 rcases h with (h | rfl) | ⟨p,i,c,hq,rfl | rfl⟩
 ·exact comps_pure (unRoot1_pure r R) h
 ·rfl
 ·have := hr p hq
  simp only [Ab.unRoot,comps,unRoot1]
  rw [if_neg (fun e => this e.symm)]
 ·have := hr p hq
  simp only [Ab.unRoot,comps,unRoot1]
  rw [if_neg (fun e => this e.symm)]
theorem map_put {f : A → A} (h : f v = v) : (st.put' s v).map f = (st.map f).put' s v := by
 simp only [St.map,St.put']
 congr 1
 funext i
 split <;> simp_all
theorem setRoot_put (r : Nat) (R : Option Root) : (st.put' s v).setRoot r R = (st.setRoot r R).put' s v := rfl
theorem put'_r : (st.put' s v).r = st.r := rfl
theorem put'_ne {i : Nat} (h : i ≠ s) : (st.put' s v).t i = st.t i := by simp [St.put',h]
theorem put'_put' {i : Nat} (u : A) (h : i ≠ s) : (st.put' s v).put' i u = (st.put' i u).put' s v := by
 simp only [St.put']
 congr 1
 funext j
 by_cases h1 : j = i
 ·by_cases h2 : j = s
  ·omega
  ·subst h1; simp [h2]
 ·by_cases h2 : j = s
  ·subst h2; simp [h1]
  ·simp [h1,h2]
theorem put_put' {d : Option Nat} (u : A) (h : d ≠ some s) : (st.put' s v).put d u = (st.put d u).put' s v := by
 cases d with
 | none => rfl
 | some i => exact put'_put' u fun e => h (by rw [e])
theorem put'_self (st : St) (s : Nat) : st.put' s (st.t s) = st := by
 cases st
 simp only [St.put',St.mk.injEq,and_true]
 funext i
 split <;> simp_all
structure Eqv (q : Option Nat) (s : Nat) (v : A) (st : St) (F : St → Option St) : Prop where
 put : F (st.put' s v) = (F st).map (·.put' s v)
 keep : ∀ st',F st = some st' → ∀ p,q = some p → st'.r p = st.r p
theorem Var.of_keep {st' : St} (h : Var q d st) (hk : ∀ p,q = some p → st'.r p = st.r p) : Var q d st' :=
 ⟨h.lt,h.ne,fun p hp => by rw [hk p hp]; exact h.b p hp⟩
theorem pin1_eqv (hv : Fix q v) (hV : Var q d st) {i : Nat} (hi : i ≠ s) (j : Nat) : Eqv q s v st (·.pin1 i j) := by
 constructor
 ·show (st.put' s v).pin1 i j = (st.pin1 i j).map (·.put' s v)
  simp only [St.pin1,put'_ne hi,put'_r]
  split
  ·simp only [Option.map_some]; rw [map_put (hv.unTok _)]
  ·rename_i r off n hc
   cases hr : st.r r with
   | none => rfl
   | some R =>
     simp only [Option.bind_some]
     cases hb : R.b
     ·simp only [Bool.false_eq_true,if_false,Option.map_some]
      rw [map_put (hv.unRoot R fun p hp e => by
       obtain ⟨R',h1,h2⟩ := hV.b p hp
       rw [← e,hr] at h1; cases h1; rw [hb] at h2; cases h2),setRoot_put]
     ·rfl
  ·rfl
 ·intro st' h p hp
  simp only [St.pin1] at h
  split at h
  ·cases h; rfl
  ·rename_i r off n hc
   obtain ⟨R,hr,h⟩ := Option.bind_eq_some_iff.1 h
   split at h
   ·cases h
   ·rename_i hb
    cases h
    have : p ≠ r := fun e => by
     obtain ⟨R',h1,h2⟩ := hV.b p hp
     rw [e,hr] at h1; cases h1; exact hb h2
    simp [St.setRoot,St.map,this]
  ·cases h; rfl
theorem bind_eqv {F G : St → Option St} (hF : Eqv q s v st F) (hG : ∀ st',F st = some st' → Eqv q s v st' G) : Eqv q s v st (fun x => (F x).bind G) := by
 constructor
 ·show (F (st.put' s v)).bind G = ((F st).bind G).map (·.put' s v)
  rw [hF.put]
  cases h : F st with
  | none => rfl
  | some st' => simp only [Option.map_some,Option.bind_some]; exact (hG st' h).put
 ·intro st' h p hp
  obtain ⟨s1,h1,h2⟩ := Option.bind_eq_some_iff.1 h
  rw [(hG s1 h1).keep _ h2 p hp,hF.keep _ h1 p hp]
theorem pinN_eqv (hv : Fix q v) (hV : Var q d st) {i : Nat} (hi : i ≠ s) : ∀ n : Nat,Eqv q s v st (·.pinN i n)
 | 0 => ⟨rfl,fun st' h p hp => by cases h; rfl⟩
 | n + 1 => bind_eqv (pinN_eqv hv hV hi n) fun st' h => pin1_eqv hv (hV.of_keep ((pinN_eqv hv hV hi n).keep st' h)) hi n
theorem own1_eqv (hv : Fix q v) (hV : ∀ p,q = some p → p < 1002000) (hs : s < gs) (j : Nat) : (st.put' s v).own1 j = (st.own1 j).put' s v ∧ ∀ p,q = some p → (st.own1 j).r p = st.r p := by
 have hne : gs + j ≠ s := by omega
 have hk : ∀ p,q = some p → own3 j ≠ p := fun p hp e => by have := hV p hp; simp only [own3] at e; omega
 unfold St.own1
 rw [put'_ne hne]
 split
 ·refine ⟨?_,fun p hp => ?_⟩
  ·rw [St.killTok,St.killTok,map_put (hv.killTok _),St.kill,St.kill,map_put (hv.kill hk),setRoot_put,put'_put' _ hne]
  ·have := Ne.symm (hk p hp)
   simp [St.put',St.setRoot,St.kill,St.killTok,St.map,this]
 ·refine ⟨?_,fun p hp => ?_⟩
  ·rw [St.kill,St.kill,map_put (hv.kill hk),setRoot_put,put'_put' _ hne]
  ·have := Ne.symm (hk p hp)
   simp [St.put',St.setRoot,St.kill,St.map,this]
 ·exact ⟨rfl,fun _ _ => rfl⟩
theorem pinAll_eqv (hv : Fix q v) (hs : s < gs) : ∀ (n : Nat) (bs : List Bool) (j : Nat) {st : St},Var q d st → Eqv q s v st (fun x => St.pinAll x bs j n)
 | 0,bs,j,st,hV => by
   have e : ∀ x : St,St.pinAll x bs j 0 = some x := fun x => by cases bs with
    | nil => rfl
    | cons b bs => cases b <;> rfl
   exact ⟨by simp only [e]; rfl,fun st' h p hp => by rw [e] at h; cases h; rfl⟩
 | n + 1,bs,j,st,hV => by
   have hne : gs + j ≠ s := by omega
   have key : Eqv q s v st (fun x => (x.pinN (gs + j) (x.t (gs + j)).cells.length).bind fun st1 => St.pinAll st1 bs.tail (j + 1) n) := by
    have h0 : Eqv q s v st (fun x => x.pinN (gs + j) (x.t (gs + j)).cells.length) :=
     ⟨by
       show (st.put' s v).pinN (gs + j) ((st.put' s v).t (gs + j)).cells.length = _
       rw [put'_ne hne]; exact (pinN_eqv hv hV hne _).put,fun st' h => (pinN_eqv hv hV hne _).keep st' h⟩
    exact bind_eqv h0 fun st' h => pinAll_eqv hv hs n bs.tail (j + 1) (hV.of_keep (h0.keep st' h))
   cases bs with
   | nil => exact key
   | cons b bs =>
     cases b with
     | false => exact key
     | true =>
       obtain ⟨h1,h2⟩ := own1_eqv hv (fun p hp => by have := hV.lt p hp; omega) hs j
       have h3 := pinAll_eqv hv hs n bs (j + 1) (hV.of_keep h2)
       constructor
       ·show St.pinAll ((st.put' s v).own1 j) bs (j + 1) n = _
        rw [h1]; exact h3.put
       ·intro st' h p hp
        exact (h3.keep st' h p hp).trans (h2 p hp)
end
section
variable {q d : Option Nat} {st : St} {v : A} {s : Nat}
structure Shr (st st' : St) : Prop where
 r : ∀ i,st'.r i = st.r i ∨ st'.r i = none ∨ (1002000 ≤ i ∧ ∃ z xs,st'.r i = some ⟨false,z,xs⟩)
 loc : ∀ i p j c,st'.t i = .loc p j c → st.t i = .loc p j c
 view : ∀ i p o n,st'.t i = .view p o n → st.t i = .view p o n ∨ 1002000 ≤ p
theorem Shr.refl (st : St) : Shr st st := ⟨fun _ => .inl rfl,fun _ _ _ _ h => h,fun _ _ _ _ h => .inl h⟩
theorem Shr.trans {a b c : St} (h : Shr a b) (h' : Shr b c) : Shr a c :=
 ⟨fun i => by
   rcases h'.r i with e | e | e
   ·rcases h.r i with e2 | e2 | ⟨e2,z,xs,e3⟩
    ·exact .inl (e.trans e2)
    ·exact .inr (.inl (e.trans e2))
    ·exact .inr (.inr ⟨e2,z,xs,e.trans e3⟩)
   ·exact .inr (.inl e)
   ·exact .inr (.inr e),fun i p j k e => h.loc i p j k (h'.loc i p j k e),fun i p j k e => by
   rcases h'.view i p j k e with e | e
   ·exact h.view i p j k e
   ·exact .inr e⟩
theorem kill_loc {k : Nat} {a : A} {p j c : Nat} (h : comps (kill1 k) a = .loc p j c) : a = .loc p j c := by
 cases a <;> simp only [comps,kill1] at h <;> first | exact h | (split at h <;> first | exact h | cases h) | cases h
theorem kill_view {k : Nat} {a : A} {p j c : Nat} (h : comps (kill1 k) a = .view p j c) : a = .view p j c := by
 cases a <;> simp only [comps,kill1] at h <;> first | exact h | (split at h <;> first | exact h | cases h) | cases h
theorem killTok_loc {k : Nat} {a : A} {p j c : Nat} (h : comps (killTok1 k) a = .loc p j c) : a = .loc p j c := by
 cases a <;> simp only [comps,killTok1] at h <;> first | exact h | (split at h <;> first | exact h | cases h) | cases h
theorem killTok_view {k : Nat} {a : A} {p j c : Nat} (h : comps (killTok1 k) a = .view p j c) : a = .view p j c := by
 cases a <;> simp only [comps,killTok1] at h <;> first | exact h | (split at h <;> first | exact h | cases h) | cases h
theorem own1_shr (st : St) (j : Nat) : Shr st (st.own1 j) := by
 unfold St.own1
 split
 ·refine ⟨fun i => ?_,fun i p k c h => ?_,fun i p o n h => ?_⟩
  ·simp only [St.put',St.setRoot,St.kill,St.killTok,St.map]
   split
   ·rename_i e; exact .inr (.inr ⟨by rw [e]; simp only [own3]; omega,_,_,rfl⟩)
   ·exact .inl rfl
  ·simp only [St.put',St.setRoot,St.kill,St.killTok,St.map] at h
   split at h
   ·cases h
   ·exact killTok_loc (kill_loc h)
  ·simp only [St.put',St.setRoot,St.kill,St.killTok,St.map] at h
   split at h
   ·cases h; exact .inr (by simp only [own3]; omega)
   ·exact .inl (killTok_view (kill_view h))
 ·refine ⟨fun i => ?_,fun i p k c h => ?_,fun i p o n h => ?_⟩
  ·simp only [St.put',St.setRoot,St.kill,St.map]
   split
   ·rename_i e; exact .inr (.inr ⟨by rw [e]; simp only [own3]; omega,_,_,rfl⟩)
   ·exact .inl rfl
  ·simp only [St.put',St.setRoot,St.kill,St.map] at h
   split at h
   ·cases h
   ·exact kill_loc h
  ·simp only [St.put',St.setRoot,St.kill,St.map] at h
   split at h
   ·cases h; exact .inr (by simp only [own3]; omega)
   ·exact .inl (kill_view h)
 ·exact .refl _
theorem unTok_loc {k : Nat} {a : A} {p j c : Nat} (h : unTok k a = .loc p j c) : a = .loc p j c := by
 cases a <;> simp only [unTok,comps,unTok1] at h <;> first | exact h | (split at h <;> cases h) | cases h
theorem unTok_view {k : Nat} {a : A} {p j c : Nat} (h : unTok k a = .view p j c) : a = .view p j c := by
 cases a <;> simp only [unTok,comps,unTok1] at h <;> first | exact h | (split at h <;> cases h) | cases h
theorem unRoot_loc {k : Nat} {R : Root} {a : A} {p j c : Nat} (h : unRoot k R a = .loc p j c) : a = .loc p j c := by
 cases a <;> simp only [unRoot,comps,unRoot1] at h <;> first | exact h | (split at h <;> first | exact h | cases h) | cases h
theorem unRoot_view {k : Nat} {R : Root} {a : A} {p j c : Nat} (h : unRoot k R a = .view p j c) : a = .view p j c := by
 cases a <;> simp only [unRoot,comps,unRoot1] at h <;> first | exact h | (split at h <;> first | exact h | cases h) | cases h
theorem pin1_shr {i j : Nat} {st' : St} (h : st.pin1 i j = some st') : Shr st st' := by
 simp only [St.pin1] at h
 split at h
 ·cases h
  exact ⟨fun _ => .inl rfl,fun _ _ _ _ h => unTok_loc h,fun _ _ _ _ h => .inl (unTok_view h)⟩
 ·obtain ⟨R,hr,h⟩ := Option.bind_eq_some_iff.1 h
  split at h
  ·cases h
  ·cases h
   refine ⟨fun i => ?_,fun _ _ _ _ h => unRoot_loc h,fun _ _ _ _ h => .inl (unRoot_view h)⟩
   simp only [St.setRoot,St.map]
   split
   ·exact .inr (.inl rfl)
   ·exact .inl rfl
 ·cases h; exact .refl _
theorem pinN_shr {i : Nat} : ∀ {n : Nat} {st' : St},st.pinN i n = some st' → Shr st st'
 | 0,st',h => by cases h; exact .refl _
 | n + 1,st',h => by
   obtain ⟨s1,h1,h2⟩ := Option.bind_eq_some_iff.1 h
   exact (pinN_shr h1).trans (pin1_shr h2)
theorem pinAll_shr : ∀ {n : Nat} {bs : List Bool} {j : Nat} {st st' : St},St.pinAll st bs j n = some st' → Shr st st'
 | 0,bs,j,st,st',h => by
   cases bs with
   | nil => cases h; exact .refl _
   | cons b bs => cases b <;> (cases h; exact .refl _)
 | n + 1,bs,j,st,st',h => by
   have key : ∀ l : List Bool,((st.pinN (gs + j) (st.t (gs + j)).cells.length).bind fun st1 => St.pinAll st1 l (j + 1) n) = some st' → Shr st st' := fun l h => by
    obtain ⟨s1,h1,h2⟩ := Option.bind_eq_some_iff.1 h
    exact (pinN_shr h1).trans (pinAll_shr h2)
   cases bs with
   | nil => exact key _ h
   | cons b bs =>
     cases b with
     | false => exact key _ h
     | true => exact (own1_shr st j).trans (pinAll_shr (n := n) (bs := bs) h)
def Free (q : Option Nat) (i : Nat) : Prop := ∀ p,q = some p → i ≠ p ∧ ∀ c,c < 1000 → sub i c ≠ p
theorem Free.lt {q : Option Nat} {i : Nat} (h : ∀ p,q = some p → p < 1000) (h' : ∀ p,q = some p → i ≠ p) : Free q i := fun p hp => ⟨h' p hp,fun c _ e => by have := h p hp; unfold sub at e; omega⟩
theorem Free.big {q : Option Nat} {i : Nat} (h : ∀ p,q = some p → p < 1002000) (h' : 1002000 ≤ i) : Free q i := fun p hp => ⟨fun e => by have := h p hp; omega,fun c _ e => by have := h p hp; unfold sub at e; omega⟩
theorem take1_eqv (hv : Fix q v) {qq c : Nat} (hq : Free q qq) (a : A) : (take1 qq c (st.put' s v) a) = (take1 qq c st a).map (fun x => (x.1,x.2.put' s v)) ∧ ∀ x st',take1 qq c st a = some (x,st') → ∀ p,q = some p → st'.r p = st.r p := by
 unfold take1
 split
 ·split
  ·rename_i hc
   have hsub : ∀ p,q = some p → sub qq c ≠ p := fun p hp => (hq p hp).2 c hc
   refine ⟨?_,fun x st' h p hp => ?_⟩
   ·simp only [Option.map_some,St.kill]; rw [map_put (hv.kill hsub),setRoot_put]
   ·cases h
    have := hsub p hp
    simp [St.setRoot,St.kill,St.map,Ne.symm this]
  ·exact ⟨rfl,fun x st' h => by cases h⟩
 ·split
  ·exact ⟨rfl,fun x st' h p hp => by cases h; rfl⟩
  ·exact ⟨rfl,fun x st' h => by cases h⟩
theorem takes_eqv (hv : Fix q v) {qq : Nat} (hq : Free q qq) : ∀ (l : List A) (c : Nat) (st : St),(takes qq c (st.put' s v) l) = (takes qq c st l).map (fun x => (x.1,x.2.put' s v)) ∧ ∀ x st',takes qq c st l = some (x,st') → ∀ p,q = some p → st'.r p = st.r p
 | [],c,st => ⟨rfl,fun x st' h p hp => by cases h; rfl⟩
 | a :: l,c,st => by
   have h1 := take1_eqv (st := st) (s := s) hv (qq := qq) (c := c) hq a
   refine ⟨?_,fun x st' h p hp => ?_⟩
   ·simp only [takes,h1.1]
    cases h : take1 qq c st a with
    | none => rfl
    | some y =>
      obtain ⟨y,s1⟩ := y
      have h2 := takes_eqv hv (qq := qq) hq l (c + 1) s1
      simp only [Option.map_some,Option.bind_some,h2.1]
      cases takes qq (c + 1) s1 l <;> rfl
   ·simp only [takes] at h
    obtain ⟨⟨y,s1⟩,e1,h⟩ := Option.bind_eq_some_iff.1 h
    obtain ⟨⟨ys,s2⟩,e2,h⟩ := Option.map_eq_some_iff.1 h
    cases h
    rw [(takes_eqv hv (qq := qq) hq l (c + 1) s1).2 _ _ e2 p hp,h1.2 _ _ e1 p hp]
theorem takeVar_eqv (hv : Fix q v) {z : Nat} {x : A} {qq : Nat} (hq : Free q qq) : Eqv q s v st (fun st => takeVar st qq z x) := by
 have hk : ∀ p,q = some p → qq ≠ p := fun p hp => (hq p hp).1
 constructor
 ·show takeVar (st.put' s v) qq z x = (takeVar st qq z x).map _
  unfold takeVar
  split
  ·have h2 := takes_eqv (s := s) hv (qq := qq) hq x.cells 0 ((st.kill qq).setRoot qq none)
   simp only [St.kill] at h2 ⊢
   rw [map_put (hv.kill hk),setRoot_put,h2.1]
   cases takes qq 0 ((st.map (comps (kill1 qq))).setRoot qq none) x.cells with
   | none => rfl
   | some y => simp only [Option.map_some]; rw [map_put (hv.kill hk),setRoot_put]
  ·rfl
 ·intro st' h p hp
  simp only [takeVar] at h
  split at h
  ·obtain ⟨⟨y,s1⟩,e1,h⟩ := Option.map_eq_some_iff.1 h
   cases h
   have := (takes_eqv (s := s) hv (qq := qq) hq x.cells 0 ((st.kill qq).setRoot qq none)).2 _ _ e1 p hp
   have hne := Ne.symm (hk p hp)
   simp only [St.setRoot,St.kill,St.map,if_neg hne] at this ⊢
   exact this
  ·cases h
def Off (q : Option Nat) (r : Nat → Option Root) (qs : List Nat) : Prop := ∀ p,q = some p → ∀ i ∈ qs,i ≠ p ∧ ∀ R x,r i = some R → R.b = true → R.xs = [x] → p ∉ x.cells.flatMap rootOf1
theorem blanks_eqv : ∀ (qs : List Nat) (l : List A) (st : St) (r0 : Nat → Option Root),qs.Nodup → Off q r0 qs → (∀ i ∈ qs,st.r i = r0 i ∨ st.r i = none) → Eqv q s v st (fun st => blanks st qs l)
 | [],[],st,r0,hn,ho,hr => ⟨rfl,fun st' h p hp => by cases h; rfl⟩
 | [],_ :: _,st,r0,hn,ho,hr => ⟨rfl,fun st' h p hp => by cases h⟩
 | i :: qs,[],st,r0,hn,ho,hr => ⟨rfl,fun st' h p hp => by cases h⟩
 | i :: qs,a :: l,st,r0,hn,ho,hr => by
   have hn2 := List.nodup_cons.1 hn
   have hother : ∀ j ∈ qs,j ≠ i := fun j hj e => hn2.1 (e ▸ hj)
   have hoff : Off q r0 qs := fun p hp j hj => ho p hp j (List.mem_cons_of_mem _ hj)
   have bad : (∀ z x,a ≠ .iob z [x]) → (∀ z xs,a ≠ .ios z xs) → a ≠ .any → ∀ st : St,blanks st (i :: qs) (a :: l) = none := fun h1 h2 h3 st => by
    unfold blanks
    split
    ·rename_i heq1 heq2; cases heq1
    ·rename_i heq1 heq2; cases heq2; exact absurd rfl (h1 _ _)
    ·rename_i heq1 heq2; cases heq2; exact absurd rfl (h2 _ _)
    ·rename_i heq1 heq2; cases heq2; exact absurd rfl h3
    ·rfl
   by_cases h1 : ∃ z x,a = .iob z [x]
   ·obtain ⟨z,x,rfl⟩ := h1
    have ih : ∀ (x0 : A),(st.r i = some ⟨true,((st.r i).getD default).z,[x0]⟩) → Eqv q s v { st with r := fun k => if k = i then some ⟨true,z,[reCell x (x.cells.map fun _ => .any)]⟩ else if (x0.cells.flatMap rootOf1).contains k then none else st.r k } (fun st => blanks st qs l) := fun x0 _ =>
     blanks_eqv qs l _ r0 hn2.2 hoff fun j hj => by
      have hne := hother j hj
      simp only [if_neg hne]
      split
      ·exact .inr rfl
      ·exact hr j (List.mem_cons_of_mem _ hj)
    constructor
    ·show blanks (st.put' s v) (i :: qs) (.iob z [x] :: l) = (blanks st (i :: qs) (.iob z [x] :: l)).map _
     simp only [blanks,put'_r]
     cases hi : st.r i with
     | none => rfl
     | some R =>
       obtain ⟨b,zz,xs⟩ := R
       simp only [Option.bind_some]
       cases b with
       | false => rfl
       | true =>
         cases xs with
         | nil => rfl
         | cons x0 xs =>
           cases xs with
           | nil => exact (ih x0 (by rw [hi]; rfl)).put
           | cons _ _ => rfl
    ·intro st' h p hp
     simp only [blanks] at h
     obtain ⟨⟨b,zz,xs⟩,hi,h⟩ := Option.bind_eq_some_iff.1 h
     cases b with
     | false => cases h
     | true =>
       cases xs with
       | nil => cases h
       | cons x0 xs =>
         cases xs with
         | cons _ _ => cases h
         | nil =>
           have h3 := (ih x0 (by rw [hi]; rfl)).keep _ h p hp
           obtain ⟨h4,h5⟩ := ho p hp i (by simp)
           rcases hr i (by simp) with e | e
           ·have h6 := h5 _ x0 (e ▸ hi) rfl rfl
            rw [h3]
            have h7 : ¬ p = i := fun e => h4 e.symm
            simp only [if_neg h7]
            rw [if_neg (by simpa using h6)]
           ·rw [e] at hi; cases hi
   ·by_cases h2 : ∃ z xs,a = .ios z xs
    ·obtain ⟨z,xs,rfl⟩ := h2
     have ih : Eqv q s v (st.setRoot i (some ⟨false,z,xs⟩)) (fun st => blanks st qs l) := blanks_eqv qs l _ r0 hn2.2 hoff fun j hj => by
      have hne := hother j hj
      simp only [St.setRoot,if_neg hne]
      exact hr j (List.mem_cons_of_mem _ hj)
     constructor
     ·exact ih.put
     ·intro st' h p hp
      have h3 := ih.keep _ h p hp
      rw [h3]
      have h4 : ¬ p = i := fun e => (ho p hp i (by simp)).1 e.symm
      simp [St.setRoot,h4]
    ·by_cases h3 : a = .any
     ·subst h3
      have ih : Eqv q s v (st.setRoot i none) (fun st => blanks st qs l) := blanks_eqv qs l _ r0 hn2.2 hoff fun j hj => by
       have hne := hother j hj
       simp only [St.setRoot,if_neg hne]
       exact hr j (List.mem_cons_of_mem _ hj)
      constructor
      ·exact ih.put
      ·intro st' h p hp
       have h3 := ih.keep _ h p hp
       rw [h3]
       have h4 : ¬ p = i := fun e => (ho p hp i (by simp)).1 e.symm
       simp [St.setRoot,h4]
     have e := bad (fun z x e => h1 ⟨z,x,e⟩) (fun z xs e => h2 ⟨z,xs,e⟩) h3
     exact ⟨by rw [e,e]; rfl,fun st' h p hp => by rw [e] at h; cases h⟩
theorem takeOuts_eqv (hv : Fix q v) : ∀ (qs : List Nat) (l : List A) (st : St),(∀ i ∈ qs,Free q i) → (∀ p,q = some p → p ∉ qs) → Eqv q s v st (fun st => takeOuts st qs l)
 | [],[],st,hq,ho => ⟨rfl,fun st' h p hp => by cases h; rfl⟩
 | [],_ :: _,st,hq,ho => ⟨rfl,fun st' h p hp => by cases h⟩
 | i :: qs,[],st,hq,ho => ⟨rfl,fun st' h p hp => by cases h⟩
 | i :: qs,a :: l,st,hq,ho => by
   have hq2 : ∀ j ∈ qs,Free q j := fun j hj => hq j (List.mem_cons_of_mem _ hj)
   have hqi : Free q i := hq i (by simp)
   have ho2 : ∀ p,q = some p → p ∉ qs := fun p hp hm => ho p hp (List.mem_cons_of_mem _ hm)
   by_cases h1 : ∃ z x,a = .iob z [x]
   ·obtain ⟨z,x,rfl⟩ := h1
    have ht := takes_eqv (s := s) hv (qq := i) hqi x.cells 0 st
    constructor
    ·show takeOuts (st.put' s v) (i :: qs) (.iob z [x] :: l) = (takeOuts st (i :: qs) (.iob z [x] :: l)).map _
     simp only [takeOuts]
     split
     ·rw [ht.1]
      cases takes i 0 st x.cells with
      | none => rfl
      | some y => exact (takeOuts_eqv hv qs l (y.2.setRoot i (some ⟨true,z,[reCell x y.1]⟩)) hq2 ho2).put
     ·rfl
    ·intro st' h p hp
     simp only [takeOuts] at h
     split at h
     ·obtain ⟨⟨cs,s1⟩,e1,h⟩ := Option.bind_eq_some_iff.1 h
      have h3 := (takeOuts_eqv hv qs l _ hq2 ho2).keep _ h p hp
      have h4 : ¬ p = i := fun e => ho p hp (by simp [e])
      rw [h3]
      simp only [St.setRoot,if_neg h4]
      exact ht.2 _ _ e1 p hp
     ·cases h
   ·by_cases h2 : ∃ z xs,a = .ios z xs
    ·obtain ⟨z,xs,rfl⟩ := h2
     exact takeOuts_eqv hv qs l st hq2 ho2
    ·by_cases h3 : a = .any
     ·subst h3
      exact takeOuts_eqv hv qs l st hq2 ho2
     have e : ∀ st : St,takeOuts st (i :: qs) (a :: l) = none := fun st => by
      unfold takeOuts
      split
      ·rename_i heq1 heq2; cases heq1
      ·rename_i heq1 heq2; cases heq2; exact absurd ⟨_,_,rfl⟩ h1
      ·rename_i heq1 heq2; cases heq2; exact absurd ⟨_,_,rfl⟩ h2
      ·rename_i heq1 heq2; cases heq2; exact absurd rfl h3
      ·rfl
     exact ⟨by rw [e,e]; rfl,fun st' h p hp => by rw [e] at h; cases h⟩
end
section
variable {q d : Option Nat} {st : St} {v : A} {s : Nat}
theorem lay_put (hs : s < gs) (vs : List A) : (st.put' s v).lay vs = (st.lay vs).put' s v := by
 simp only [St.lay,St.put']
 congr 1
 funext i
 by_cases h1 : gs ≤ i
 ·have : i ≠ s := by omega
  simp [h1,this]
 ·simp [h1]
theorem args1_put : ∀ (xs : List (Option A)) (l : List A),args1 (st.put' s v) xs l = args1 st xs l
 | [],[] => rfl
 | [],_ :: _ => rfl
 | some x :: xs,[] => rfl
 | none :: xs,[] => rfl
 | some x :: xs,_ :: l => by simp only [args1,args1_put xs l]
 | none :: xs,a :: l => by simp only [args1,args1_put xs l,put'_r]
theorem loanOf_put (a : A) : loanOf (st.put' s v) a = loanOf st a := by
 unfold loanOf
 rfl
theorem loans_put : ∀ (bs : List Bool) (l : List A),loans (st.put' s v) bs l = loans st bs l
 | bs,[] => by cases bs with
   | nil => rfl
   | cons b bs => cases b <;> rfl
 | true :: bs,a :: l => by simp only [loans,loans_put bs l,loanOf_put,put'_r]
 | false :: bs,a :: l => by simp only [loans,List.tail_cons,loans_put bs l]
 | [],a :: l => by simp only [loans,List.tail_nil,loans_put [] l]
theorem loanOf_is {a : A} {i : Nat} {x : A} (h : loanOf st a = some (i,x)) : ∃ R,st.r i = some R ∧ ((a = .loc i 0 0 ∧ R.b = true) ∨ ∃ n,a = .view i 0 n ∧ R.b = false) := by
 unfold loanOf at h
 split at h
 ·obtain ⟨R,hr,h⟩ := Option.bind_eq_some_iff.1 h
  split at h
  ·rename_i hb hx
   obtain ⟨cs,_,h⟩ := Option.map_eq_some_iff.1 h
   cases h
   exact ⟨R,hr,.inl ⟨rfl,hb⟩⟩
  ·cases h
 ·obtain ⟨R,hr,h⟩ := Option.bind_eq_some_iff.1 h
  split at h
  ·rename_i hc
   cases h
   exact ⟨R,hr,.inr ⟨_,rfl,hc.2⟩⟩
  ·cases h
 ·cases h
theorem loans_qs : ∀ (bs : List Bool) (l : List A) {ls : List (Option A)} {qs ns : List Nat},loans st bs l = some (ls,qs,ns) → ns.Nodup → qs.Nodup ∧ (∀ i ∈ qs,i ∈ ns) ∧ ∀ i ∈ qs,∃ a ∈ l,∃ R,st.r i = some R ∧ ((a = .loc i 0 0 ∧ R.b = true) ∨ ∃ n,a = .view i 0 n ∧ R.b = false)
 | bs,[],ls,qs,ns,h,hn => by
   have : qs = [] := by
    cases bs with
    | nil => cases h; rfl
    | cons b bs => cases b <;> (cases h; rfl)
   subst this; exact ⟨by simp,by simp,by simp⟩
 | true :: bs,a :: l,ls,qs,ns,h,hn => by
   simp only [loans] at h
   obtain ⟨⟨i,x⟩,e1,h⟩ := Option.bind_eq_some_iff.1 h
   obtain ⟨⟨xs,qs',ns'⟩,e2,h⟩ := Option.map_eq_some_iff.1 h
   cases h
   obtain ⟨R,hR,hk⟩ := loanOf_is e1
   have hmem : i ∈ names st.r a := by
    rcases hk with ⟨rfl,_⟩ | ⟨n,rfl,_⟩ <;> simp [names,namesOf]
   have hn' := List.nodup_append.1 hn
   obtain ⟨g1,g2,g3⟩ := loans_qs bs l e2 hn'.2.1
   refine ⟨List.nodup_cons.2 ⟨fun hm => hn'.2.2 i hmem i (g2 i hm) rfl,g1⟩,fun j hj => ?_,fun j hj => ?_⟩
   ·rcases List.mem_cons.1 hj with rfl | hj
    ·exact List.mem_append_left _ hmem
    ·exact List.mem_append_right _ (g2 j hj)
   ·rcases List.mem_cons.1 hj with rfl | hj
    ·exact ⟨a,by simp,R,hR,hk⟩
    ·obtain ⟨b,hb,k⟩ := g3 j hj
     exact ⟨b,List.mem_cons_of_mem _ hb,k⟩
 | false :: bs,a :: l,ls,qs,ns,h,hn => by
   simp only [loans,List.tail_cons] at h
   obtain ⟨⟨xs,qs',ns'⟩,e2,h⟩ := Option.map_eq_some_iff.1 h
   cases h
   obtain ⟨g1,g2,g3⟩ := loans_qs bs l e2 hn
   exact ⟨g1,g2,fun j hj => by obtain ⟨b,hb,k⟩ := g3 j hj; exact ⟨b,List.mem_cons_of_mem _ hb,k⟩⟩
 | [],a :: l,ls,qs,ns,h,hn => by
   simp only [loans,List.tail_nil] at h
   obtain ⟨⟨xs,qs',ns'⟩,e2,h⟩ := Option.map_eq_some_iff.1 h
   cases h
   obtain ⟨g1,g2,g3⟩ := loans_qs [] l e2 hn
   exact ⟨g1,g2,fun j hj => by obtain ⟨b,hb,k⟩ := g3 j hj; exact ⟨b,List.mem_cons_of_mem _ hb,k⟩⟩
theorem landR_eqv (hv : Fix q v) (hF : ∀ i,d = some i → Free q i) (hd : d ≠ some s) (rs : List A) : Eqv q s v st (fun st => landR st d rs) := by
 have other : (∀ z x i,¬ (rs = [.iob z [x]] ∧ d = some i)) → ∀ st : St,landR st d rs = if rs.any isIob then none else some (st.put d (packR (d.getD 0) rs)) := fun h st => by
  unfold landR
  split
  ·exact absurd ⟨rfl,rfl⟩ (h _ _ _)
  ·rfl
 by_cases h1 : ∃ z x i,rs = [.iob z [x]] ∧ d = some i
 ·obtain ⟨z,x,i,rfl,rfl⟩ := h1
  have ht := takeVar_eqv (s := s) (st := st) (z := z) (x := x) hv (hF i rfl)
  have hne : i ≠ s := fun e => hd (by rw [e])
  constructor
  ·show ((takeVar (st.put' s v) i z x).map fun st1 => st1.put (some i) (.loc i 0 0)) = ((takeVar st i z x).map fun st1 => st1.put (some i) (.loc i 0 0)).map _
   have hp := ht.put
   rw [show takeVar (st.put' s v) i z x = _ from hp]
   cases takeVar st i z x with
   | none => rfl
   | some y => simp only [Option.map_some]; rw [put_put' _ hd]
  ·intro st' h p hp
   obtain ⟨y,e1,h⟩ := Option.map_eq_some_iff.1 (show ((takeVar st i z x).map fun st1 => st1.put (some i) (.loc i 0 0)) = some st' from h)
   cases h
   exact ht.keep y e1 p hp
 ·have e := other fun z x i h => h1 ⟨z,x,i,h⟩
  constructor
  ·show landR (st.put' s v) d rs = (landR st d rs).map _
   rw [e,e]
   split
   ·rfl
   ·simp only [Option.map_some]; rw [put_put' _ hd]
  ·intro st' h p hp
   simp only [e] at h
   split at h
   ·cases h
   ·cases h; cases d <;> rfl
theorem giveBack_eqv (hv : Fix q v) {qs : List Nat} (hq : ∀ i ∈ qs,Free q i) (hn : qs.Nodup) (ho : Off q st.r qs) (os : List A) : Eqv q s v st (fun st => giveBack st qs os) :=
 bind_eqv (blanks_eqv qs os st st.r hn ho fun i _ => .inl rfl) fun st' _ => takeOuts_eqv hv qs os st' hq fun p hp hm => (ho p hp p hm).1 rfl
theorem lay_at {vs : List A} {j : Nat} {a : A} (h : (st.lay vs).t (gs + j) = a) (ha : a ≠ .any) : a ∈ vs := by
 simp only [St.lay] at h
 rw [if_pos (by omega),show gs + j - gs = j by omega] at h
 cases hj : vs[j]? with
 | none => rw [hj] at h; exact absurd h.symm ha
 | some b => rw [hj] at h; simp at h; subst h; exact List.mem_of_getElem? hj
theorem call_eqv {cf : CF} {io : Nat → List Bool} (hv : Fix q v) (hs : s < gs) (hV : Var q d st) {f : Opd} {args : List Opd} (hf : f.v (st.put' s v) = f.v st) (ha : args.map (Opd.v (st.put' s v)) = args.map (Opd.v st)) (hd : d ≠ some s)
 (ht : ∀ p,q = some p → p ∉ touch st (.call f args)) : Eqv q s v st (fun st => stepW cf io d st (.call f args)) := by
 let G : Nat → Nat → St → Option St := fun g n st1 =>
  let vs := (List.range n).map fun j => st1.t (gs + j)
  (loans st1 (io g) vs).bind fun (ls,qs,ns) =>
    if decide ns.Nodup then
     (args1 { st1 with r := less st1.r ns } ls vs).bind fun as => (cf g as).bind fun (res,outs) =>
       (giveBack (st1.lay []) qs outs).bind fun st2 => landR st2 d res
    else none
 cases hfv : f.v st with
 | fn g caps =>
   have e : ∀ x : St,f.v x = .fn g caps → stepW cf io d x (.call f args) = ((x.lay (args.map (Opd.v x) ++ caps)).pinAll (io g) 0 (args.length + caps.length)).bind (G g (args.length + caps.length)) := fun x hx => by
    simp only [stepW,hx]; rfl
   have hVl : Var q d (st.lay (args.map (Opd.v st) ++ caps)) := ⟨hV.lt,hV.ne,hV.b⟩
   have h1 := pinAll_eqv hv hs (args.length + caps.length) (io g) 0 hVl
   have hG : ∀ st1,(st.lay (args.map (Opd.v st) ++ caps)).pinAll (io g) 0 (args.length + caps.length) = some st1 → Eqv q s v st1 (G g (args.length + caps.length)) := fun st1 hp => by
    have hV1 : Var q d st1 := hVl.of_keep (h1.keep st1 hp)
    have hshr := pinAll_shr hp
    have hvs : ((List.range (args.length + caps.length)).map fun j => (st1.put' s v).t (gs + j)) = (List.range (args.length + caps.length)).map fun j => st1.t (gs + j) :=
     List.map_congr_left fun j _ => put'_ne (by omega)
    have hB : ∀ (ls : List (Option A)) (qs ns : List Nat),loans st1 (io g) ((List.range (args.length + caps.length)).map fun j => st1.t (gs + j)) = some (ls,qs,ns) → ns.Nodup → ∀ res outs : List A,
     Eqv q s v (st1.lay []) (fun x => (giveBack x qs outs).bind fun st2 => landR st2 d res) := fun ls qs ns hl hn res outs => by
     obtain ⟨g1,g2,g3⟩ := loans_qs _ _ hl hn
     have ho : Off q (st1.lay []).r qs := fun p hp i hi => by
      obtain ⟨a,ham,R,hR,hk⟩ := g3 i hi
      obtain ⟨j,_,rfl⟩ := List.mem_map.1 ham
      have hRr : st.r i = some R ∨ (1002000 ≤ i ∧ R.b = false) := by
       rcases hshr.r i with e | e | ⟨e,z,xs,e2⟩
       ·exact .inl (e.symm.trans hR)
       ·rw [e] at hR; cases hR
       ·exact .inr ⟨e,by rw [e2] at hR; cases hR; rfl⟩
      have hin : ∀ a0 : A,a0 ≠ .any → (st.lay (args.map (Opd.v st) ++ caps)).t (gs + j) = a0 → ∀ m ∈ names st.r a0,m ∈ touch st (.call f args) := fun a0 hne e m hm => by
       have := lay_at e hne
       simp only [touch,hfv]
       rcases List.mem_append.1 this with h' | h'
       ·exact List.mem_append_left _ (List.mem_flatMap.2 ⟨a0,h',hm⟩)
       ·exact List.mem_append_right _ (List.mem_flatMap.2 ⟨a0,h',hm⟩)
      rcases hk with ⟨e,hb⟩ | ⟨n,e,hb⟩
      ·have e0 := hin _ (by intro e; cases e) (hshr.loc _ _ _ _ e)
       refine ⟨fun e' => ht p hp (e0 p (by simp [names,namesOf,e'])),fun R' x h2 _ h3 hm => ht p hp (e0 p ?_)⟩
       have h2 : st1.r i = some R' := h2
       rw [hR] at h2; cases h2
       have hRr : st.r i = some R := by
        rcases hRr with h | ⟨_,h⟩
        ·exact h
        ·rw [hb] at h; cases h
       simp only [names,namesOf,hRr,h3,List.flatMap_cons,List.flatMap_nil,List.append_nil]
       exact List.mem_cons_of_mem _ hm
      ·refine ⟨fun e' => ?_,fun R' x h2 h4 h3 hm => ?_⟩
       ·rcases hshr.view _ _ _ _ e with e1 | e1
        ·have e0 := hin _ (by intro e; cases e) e1
         exact ht p hp (e0 p (by simp [names,namesOf,e']))
        ·have := hV.lt p hp; omega
       have h2 : st1.r i = some R' := h2
       rw [hR] at h2; cases h2
       rw [hb] at h4; cases h4
     have hg := giveBack_eqv (s := s) hv (fun i hi => Free.lt hV1.lt fun p hp => (ho p hp i hi).1) g1 ho outs
     exact bind_eqv hg fun st' h' => landR_eqv hv (fun i hi => Free.lt hV1.lt fun p hp e => hV1.ne p hp (by rw [hi,e])) hd res
    constructor
    ·show G g (args.length + caps.length) (st1.put' s v) = (G g (args.length + caps.length) st1).map _
     simp only [G,hvs,loans_put]
     cases hl : loans st1 (io g) ((List.range (args.length + caps.length)).map fun j => st1.t (gs + j)) with
     | none => rfl
     | some y =>
       obtain ⟨ls,qs,ns⟩ := y
       simp only [Option.bind_some]
       by_cases hn : ns.Nodup
       ·simp only [hn,decide_true,if_true]
        have ea : args1 { (st1.put' s v) with r := less (st1.put' s v).r ns } ls ((List.range (args.length + caps.length)).map fun j => st1.t (gs + j)) = args1 { st1 with r := less st1.r ns } ls ((List.range (args.length + caps.length)).map fun j => st1.t (gs + j)) :=
         args1_put (st := { st1 with r := less st1.r ns }) _ _
        rw [ea]
        cases args1 { st1 with r := less st1.r ns } ls ((List.range (args.length + caps.length)).map fun j => st1.t (gs + j)) with
        | none => rfl
        | some as =>
          simp only [Option.bind_some]
          cases cf g as with
          | none => rfl
          | some y =>
            simp only [Option.bind_some,lay_put hs]
            exact (hB ls qs ns hl hn y.1 y.2).put
       ·simp only [hn,decide_false,Bool.false_eq_true,if_false]; rfl
    ·intro st' h p hp
     simp only [G] at h
     obtain ⟨⟨ls,qs,ns⟩,hl,h⟩ := Option.bind_eq_some_iff.1 h
     simp only at h
     split at h
     ·rename_i hn
      obtain ⟨as,_,h⟩ := Option.bind_eq_some_iff.1 h
      obtain ⟨⟨res,outs⟩,_,h⟩ := Option.bind_eq_some_iff.1 h
      exact (hB ls qs ns hl (by simpa using hn) res outs).keep st' h p hp
     ·cases h
   have h2 := bind_eqv h1 hG
   constructor
   ·show stepW cf io d (st.put' s v) (.call f args) = (stepW cf io d st (.call f args)).map _
    rw [e st hfv,e (st.put' s v) (hf.trans hfv),ha,lay_put hs]
    exact h2.put
   ·intro st' h p hp
    have h : stepW cf io d st (.call f args) = some st' := h
    rw [e st hfv] at h
    exact h2.keep st' h p hp
 | _ =>
   have e : ∀ x : St,f.v x = f.v st → stepW cf io d x (.call f args) = none := fun x hx => by simp only [stepW,hx,hfv]
   exact ⟨by rw [e _ hf,e _ rfl]; rfl,fun st' h => by rw [e _ rfl] at h; cases h⟩
theorem alloc_put {cf : CF} {io : Nat → List Bool} {i : Nat} (hv : comps (kill1 i) v = v) {z : Nat} {zero : A} (hd : (some i : Option Nat) ≠ some s) : stepW cf io (some i) (st.put' s v) (.alloc z zero) = (stepW cf io (some i) st (.alloc z zero)).map (·.put' s v) := by
 simp only [stepW]
 split
 ·simp only [Option.map_some,St.kill]
  rw [map_put hv,setRoot_put,put_put' _ hd]
 ·rfl
theorem alloc_eqv {cf : CF} {io : Nat → List Bool} (hv : Fix q v) (hne : ∀ p,q = some p → d ≠ some p) {z : Nat} {zero : A} (hd : d ≠ some s) : Eqv q s v st (fun st => stepW cf io d st (.alloc z zero)) := by
 cases d with
 | none => exact ⟨rfl,fun st' h => by cases h⟩
 | some i =>
   have hk : ∀ p,q = some p → i ≠ p := fun p hp e => hne p hp (by rw [e])
   constructor
   ·show stepW cf io (some i) (st.put' s v) (.alloc z zero) = (stepW cf io (some i) st (.alloc z zero)).map _
    simp only [stepW]
    split
    ·simp only [Option.map_some,St.kill]
     rw [map_put (hv.kill hk),setRoot_put,put_put' _ hd]
    ·rfl
   ·intro st' h p hp
    simp only [stepW] at h
    split at h
    ·cases h
     have := Ne.symm (hk p hp)
     simp [St.put,St.setRoot,St.kill,St.map,this]
    ·cases h
end
section
variable {q d : Option Nat} {st : St} {v : A} {s : Nat}
theorem absorb1_eqv (hv : Fix q v) (hs : s < gs) (hV : Var q d st) {qq c j : Nat} : (St.absorb1 (st.put' s v) qq c j) = (St.absorb1 st qq c j).map (fun x => (x.1,x.2.put' s v)) ∧ ∀ x st',St.absorb1 st qq c j = some (x,st') → ∀ p,q = some p → st'.r p = st.r p := by
 have hne : gs ≠ s := by omega
 have hsub : ∀ p,q = some p → ∀ c,sub qq c ≠ p := fun p hp c e => by have := hV.lt p hp; unfold sub at e; omega
 have hp1 := pin1_eqv hv hV hne j
 unfold St.absorb1
 rw [put'_ne hne]
 split
 ·split
  ·refine ⟨?_,fun x st' h p hp => ?_⟩
   ·simp only [Option.map_some,St.kill,St.killTok]
    rw [map_put (hv.killTok _),map_put (hv.kill fun p hp => hsub p hp _),setRoot_put]
   ·cases h
    have := hsub p hp (c + j)
    simp [St.setRoot,St.kill,St.killTok,St.map,Ne.symm this]
  ·exact ⟨rfl,fun x st' h => by cases h⟩
 ·rename_i r off n hc
  by_cases hcd : r = sub qq (c + j) ∧ c + j < 1000 ∧ (st.r r).isSome = true
  ·have hcd' : r = sub qq (c + j) ∧ c + j < 1000 ∧ ((st.put' s v).r r).isSome = true := hcd
   rw [if_pos hcd',if_pos hcd]
   exact ⟨rfl,fun x st' h p hp => by cases h; rfl⟩
  ·have hcd' : ¬ (r = sub qq (c + j) ∧ c + j < 1000 ∧ ((st.put' s v).r r).isSome = true) := hcd
   rw [if_neg hcd',if_neg hcd]
   refine ⟨?_,fun x st' h p hp => ?_⟩
   ·rw [show (st.put' s v).pin1 gs j = (st.pin1 gs j).map (·.put' s v) from hp1.put]
    cases st.pin1 gs j with
    | none => rfl
    | some s1 =>
      simp only [Option.map_some,Option.bind_some,put'_ne hne]
      split <;> rfl
   ·obtain ⟨s1,e1,h⟩ := Option.bind_eq_some_iff.1 h
    split at h
    ·cases h; exact hp1.keep _ e1 p hp
    ·cases h
 ·exact ⟨rfl,fun x st' h p hp => by cases h; rfl⟩
 ·split
  ·exact ⟨rfl,fun x st' h p hp => by cases h; rfl⟩
  ·exact ⟨rfl,fun x st' h => by cases h⟩
theorem absorbs_eqv (hv : Fix q v) (hs : s < gs) {qq c : Nat} : ∀ (n j : Nat) {st : St},Var q d st → (St.absorbs (st.put' s v) qq c j n) = (St.absorbs st qq c j n).map (fun x => (x.1,x.2.put' s v)) ∧ ∀ x st',St.absorbs st qq c j n = some (x,st') → ∀ p,q = some p → st'.r p = st.r p
 | 0,j,st,hV => ⟨rfl,fun x st' h p hp => by cases h; rfl⟩
 | n + 1,j,st,hV => by
   have h1 := absorb1_eqv hv hs hV (qq := qq) (c := c) (j := j)
   refine ⟨?_,fun x st' h p hp => ?_⟩
   ·simp only [St.absorbs,h1.1]
    cases h : St.absorb1 st qq c j with
    | none => rfl
    | some y =>
      obtain ⟨y,s1⟩ := y
      have h2 := absorbs_eqv hv hs (qq := qq) (c := c) n (j + 1) (hV.of_keep (h1.2 _ _ h))
      simp only [Option.map_some,Option.bind_some,h2.1]
      cases St.absorbs s1 qq c (j + 1) n <;> rfl
   ·simp only [St.absorbs] at h
    obtain ⟨⟨y,s1⟩,e1,h⟩ := Option.bind_eq_some_iff.1 h
    obtain ⟨⟨ys,s2⟩,e2,h⟩ := Option.map_eq_some_iff.1 h
    cases h
    rw [(absorbs_eqv hv hs (qq := qq) (c := c) n (j + 1) (hV.of_keep (h1.2 _ _ e1))).2 _ _ e2 p hp,h1.2 _ _ e1 p hp]
theorem pin_eqv (hv : Fix q v) (hs : s < gs) (hV : Var q d st) (x : A) : St.pin (st.put' s v) x = (St.pin st x).map (fun y => (y.1,y.2.put' s v)) ∧ ∀ y st',St.pin st x = some (y,st') → ∀ p,q = some p → st'.r p = st.r p := by
 have hne : gs ≠ s := by omega
 have hVg : Var q d (st.put' gs x) := ⟨hV.lt,hV.ne,hV.b⟩
 have h1 := pinN_eqv hv hVg hne x.cells.length
 unfold St.pin
 refine ⟨?_,fun y st' h p hp => ?_⟩
 ·rw [put'_put' x hne,show ((st.put' gs x).put' s v).pinN gs x.cells.length = _ from h1.put]
  cases (st.put' gs x).pinN gs x.cells.length with
  | none => rfl
  | some s1 =>
    simp only [Option.map_some,Option.bind_some,put'_ne hne]
    cases dat (s1.t gs) with
    | none => rfl
    | some u => simp only [Option.map_some,put'_put' A.any hne]
 ·obtain ⟨s1,e1,h⟩ := Option.bind_eq_some_iff.1 h
  obtain ⟨u,_,h⟩ := Option.map_eq_some_iff.1 h
  cases h
  exact h1.keep _ e1 p hp
theorem sto_eqv {cf : CF} {io : Nat → List Bool} (hv : Fix q v) (hs : s < gs) (hV : Var q d st) {n : Nat} {a x : Opd} (ha : a.v (st.put' s v) = a.v st) (hx : x.v (st.put' s v) = x.v st) (hd : d ≠ some s)
 (ht : ∀ p,q = some p → p ∉ touch st (.sto n a x)) : Eqv q s v st (fun st => stepW cf io d st (.sto n a x)) := by
 have hne : gs ≠ s := by omega
 have key : ∀ r i c,a.v st = .loc r i c → ∀ p,q = some p → r ≠ p := fun r i c e p hp e' => ht p hp (by simp [touch,e,e'])
 have hVb : ∀ (r : Nat) (R : Root),(∀ p,q = some p → r ≠ p) → Var q d ((st.put' gs (x.v st)).setRoot r (some R)) := fun r R hr =>
  hV.of_keep fun p hp => by simp [St.setRoot,St.put',Ne.symm (hr p hp)]
 constructor
 ·show stepW cf io d (st.put' s v) (.sto n a x) = (stepW cf io d st (.sto n a x)).map _
  simp only [stepW,ha,hx]
  split
  ·split
   ·rename_i r i c hav
    have hr := key r i c hav
    cases hR : st.r r with
    | none => rw [show (st.put' s v).r r = none from hR]; rfl
    | some R =>
      obtain ⟨b,z,xs⟩ := R
      rw [show (st.put' s v).r r = some ⟨b,z,xs⟩ from hR]
      simp only [Option.bind_some]
      split
      ·rename_i e
       by_cases hcd : r < 1000 ∧ c + n ≤ e.cells.length ∧ c + n ≤ 1000 ∧ (x.v st).cells.all (solid st.r) = true
       ·have hcd' : r < 1000 ∧ c + n ≤ e.cells.length ∧ c + n ≤ 1000 ∧ (x.v st).cells.all (solid (st.put' s v).r) = true := hcd
        rw [if_pos hcd',if_pos hcd,put'_put' _ hne,setRoot_put,(absorbs_eqv hv hs n 0 (hVb r _ hr)).1]
        cases ((st.put' gs (x.v st)).setRoot r (some ⟨true,z,[blank e c n]⟩)).absorbs r c 0 n with
        | none => rfl
        | some y => simp only [Option.map_some]; rw [put'_put' _ hne,setRoot_put,put_put' _ hd]
       ·have hcd' : ¬ (r < 1000 ∧ c + n ≤ e.cells.length ∧ c + n ≤ 1000 ∧ (x.v st).cells.all (solid (st.put' s v).r) = true) := hcd
        rw [if_neg hcd',if_neg hcd]; rfl
      ·rw [(pin_eqv hv hs hV (x.v st)).1]
       cases st.pin (x.v st) with
       | none => rfl
       | some y =>
         simp only [Option.map_some,Option.bind_some,put'_r]
         by_cases hcd : y.1.cells.length = n
         ·simp only [if_pos hcd]
          cases y.2.r r with
          | none => rfl
          | some R =>
            simp only [Option.bind_some]
            cases R.xs[i]? with
            | none => rfl
            | some e =>
              simp only [Option.bind_some]
              cases setCells e.cells c y.1.cells with
              | none => rfl
              | some cs => simp only [Option.map_some]; rw [setRoot_put,put_put' _ hd]
         ·simp only [if_neg hcd]; rfl
      ·rfl
   ·rfl
  ·rfl
 ·intro st' h p hp
  have h : stepW cf io d st (.sto n a x) = some st' := h
  simp only [stepW] at h
  split at h
  ·split at h
   ·rename_i r i c hav
    have hr := key r i c hav
    have hrp : ¬ p = r := fun e => hr p hp e.symm
    obtain ⟨⟨b,z,xs⟩,hR,h⟩ := Option.bind_eq_some_iff.1 h
    simp only at h
    split at h
    ·rename_i e _
     split at h
     ·obtain ⟨⟨cs,s1⟩,e1,h⟩ := Option.map_eq_some_iff.1 h
      cases h
      have h2 := (absorbs_eqv hv hs (s := s) n 0 (hVb r _ hr)).2 _ _ e1 p hp
      simp only [St.setRoot,St.put',if_neg hrp] at h2
      have : (((s1.put' gs .any).setRoot r (some ⟨true,z,[reCell e (e.cells.take c ++ cs ++ e.cells.drop (c + n))]⟩)).put d .any).r p = s1.r p := by
       cases d <;> simp [St.put,St.setRoot,St.put',hrp]
      rw [this,h2]
     ·cases h
    ·obtain ⟨⟨u,s1⟩,e1,h⟩ := Option.bind_eq_some_iff.1 h
     simp only at h
     split at h
     ·obtain ⟨R,_,h⟩ := Option.bind_eq_some_iff.1 h
      obtain ⟨e,_,h⟩ := Option.bind_eq_some_iff.1 h
      obtain ⟨cs,_,h⟩ := Option.map_eq_some_iff.1 h
      cases h
      have h2 := (pin_eqv hv hs (s := s) hV (x.v st)).2 _ _ e1 p hp
      have : ∀ X,((s1.setRoot r X).put d .any).r p = s1.r p := fun X => by cases d <;> simp [St.put,St.setRoot,hrp]
      rw [this,h2]
     ·cases h
    ·cases h
   ·cases h
  ·cases h
end
section
variable {q d : Option Nat} {st : St} {v : A} {s : Nat}
theorem asg_eqv {cf : CF} {io : Nat → List Bool} (hv : Fix q v) (hV : Var q d st) {x : Opd} (hx : x.v (st.put' s v) = x.v st) (hd : d ≠ some s) : Eqv q s v st (fun st => stepW cf io d st (.asg x)) := by
 have hk : ∀ i,d = some i → ∀ p,q = some p → i ≠ p := fun i hi p hp e => hV.ne p hp (by rw [hi,e])
 cases d with
 | none =>
   have e : ∀ y : St,stepW cf io none y (.asg x) = some (y.put none (x.v y)) := fun y => rfl
   exact ⟨by rw [e,e]; rfl,fun st' h p hp => by rw [e] at h; cases h; rfl⟩
 | some i =>
 have hk := hk i rfl
 constructor
 ·show stepW cf io (some i) (st.put' s v) (.asg x) = (stepW cf io (some i) st (.asg x)).map _
  cases hxv : x.v st <;> simp only [stepW,hx,hxv] <;> first
   | (simp only [Option.map_some]; rw [put_put' _ hd]; done)
   | (split
      ·simp only [Option.map_some,St.kill]
       rw [map_put (hv.kill hk),setRoot_put,put_put' _ hd]
      ·rfl)
   | (split
      ·simp only [Option.map_some,St.kill,St.killTok]
       rw [map_put (hv.killTok _),map_put (hv.kill hk),setRoot_put,put_put' _ hd]
      ·rfl)
 ·intro st' h p hp
  have h : stepW cf io (some i) st (.asg x) = some st' := h
  have hn := Ne.symm (hk p hp)
  cases hxv : x.v st <;> simp only [stepW,hxv] at h <;> first
   | (cases h; rfl)
   | (split at h
      ·cases h; simp [St.put,St.setRoot,St.kill,St.killTok,St.map,hn]
      ·cases h)
theorem opd_put {x : Opd} (h : s ∉ opdU x) : x.v (st.put' s v) = x.v st := by
 cases x with
 | c a => rfl
 | t i => exact put'_ne fun e => h (by simp [opdU,e])
theorem fillQ_eqv (hv : Fix q v) (hs : s < gs) {z : Nat} : ∀ (l : List (Nat × Opd)) (xs : List A) {st : St},Var q d st → (∀ p ∈ l,s ∉ opdU p.2) →
 stepW.fillQ (st.put' s v) z xs l = (stepW.fillQ st z xs l).map (fun y => (y.1,y.2.put' s v)) ∧ ∀ y st',stepW.fillQ st z xs l = some (y,st') → ∀ p,q = some p → st'.r p = st.r p
 | [],xs,st,hV,hl => ⟨rfl,fun y st' h p hp => by cases h; rfl⟩
 | (i,x) :: l,xs,st,hV,hl => by
   have hx : x.v (st.put' s v) = x.v st := opd_put (hl (i,x) (by simp))
   obtain ⟨p1,p2⟩ := pin_eqv hv hs hV (x.v st)
   have hl' : ∀ p ∈ l,s ∉ opdU p.2 := fun p hp => hl p (List.mem_cons_of_mem _ hp)
   refine ⟨?_,fun y st' h p hp => ?_⟩
   ·simp only [stepW.fillQ,hx,p1]
    cases h : St.pin st (x.v st) with
    | none => rfl
    | some r =>
      obtain ⟨u,s1⟩ := r
      simp only [Option.map_some,Option.bind_some]
      split
      ·exact (fillQ_eqv hv hs l _ (hV.of_keep (p2 _ _ h)) hl').1
      ·rfl
   ·simp only [stepW.fillQ] at h
    obtain ⟨⟨u,s1⟩,h1,h⟩ := Option.bind_eq_some_iff.1 h
    simp only at h
    split at h
    ·rw [(fillQ_eqv hv hs l _ (hV.of_keep (p2 _ _ h1)) hl').2 _ _ h p hp,p2 _ _ h1 p hp]
    ·cases h
theorem bsl_eqv {cf : CF} {io : Nat → List Bool} (hv : Fix q v) (hs : s < gs) (hV : Var q d st) {z n : Nat} {zero : A} {ps : List (Nat × Opd)} (hps : ∀ p ∈ ps,s ∉ opdU p.2) (hd : d ≠ some s) : Eqv q s v st (fun st => stepW cf io d st (.bsl z zero n ps)) := by
 have h := fillQ_eqv hv hs (z := z) ps (List.replicate n zero) hV hps
 constructor
 ·show stepW cf io d (st.put' s v) (.bsl z zero n ps) = (stepW cf io d st (.bsl z zero n ps)).map _
  cases d with
  | none => rfl
  | some d =>
    simp only [stepW,h.1]
    split
    ·cases stepW.fillQ st z (List.replicate n zero) ps with
     | none => rfl
     | some r => simp only [Option.map_some]; rw [put_put' _ hd]
    ·rfl
 ·intro st' he p hp
  have he : stepW cf io d st (.bsl z zero n ps) = some st' := he
  cases d with
  | none => cases he
  | some d =>
    simp only [stepW] at he
    split at he
    ·obtain ⟨⟨xs,s1⟩,h1,he⟩ := Option.map_eq_some_iff.1 he
     cases he
     exact h.2 _ _ h1 p hp
    ·cases he
theorem noView_unTok {a : A} (h : noView a = true) (k : Nat) : noView (Ab.unTok k a) = true := by
 have one : ∀ c : A,(match c with | .view .. => false | _ => true) = true → (match unTok1 k c with | .view .. => false | _ => true) = true := fun c hc => by
  cases c <;> first
   | rfl
   | exact hc
   | (rename_i j z xs
      by_cases e : j = k <;> simp [unTok1,e])
 cases a <;> first
  | (simp only [noView,Ab.unTok,comps,A.cells,List.all_cons,List.all_nil,Bool.and_true] at h ⊢; exact one _ h)
  | (simp only [noView,Ab.unTok,comps,A.cells,List.all_map,List.all_eq_true] at h ⊢
     exact fun c hc => one c (h c hc))
  | (simp [noView,A.cells] at h; done)
  | (rename_i j z xs
     by_cases e : j = k <;> simp [Ab.unTok,comps,unTok1,e,noView,A.cells]
     done)
  | rfl
structure EqvT (s : Nat) (v : A) (st : St) (F : St → Option St) : Prop where
 put : F (st.put' s v) = (F st).map (·.put' s v)
 keep : ∀ st',F st = some st' → st'.r = st.r ∧ ∀ i,noView (st.t i) = true → noView (st'.t i) = true
theorem pin1_eqvT (hv : Fix q v) {i : Nat} (hi : i ≠ s) (hn : noView (st.t i) = true) (j : Nat) : EqvT s v st (·.pin1 i j) := by
 have hc : ∀ r off n,comp (st.t i) j ≠ .view r off n := fun r off n e => by
  simp only [comp] at e
  cases h : (st.t i).cells[j]? with
  | none => rw [h] at e; cases e
  | some c =>
    rw [h] at e
    have e : c = .view r off n := e
    have := List.all_eq_true.1 hn c (List.mem_of_getElem? h)
    rw [e] at this; cases this
 constructor
 ·show (st.put' s v).pin1 i j = (st.pin1 i j).map (·.put' s v)
  simp only [St.pin1,put'_ne hi,put'_r]
  split
  ·simp only [Option.map_some]; rw [map_put (hv.unTok _)]
  ·rename_i r off n e; exact absurd e (hc r off n)
  ·rfl
 ·intro st' h
  simp only [St.pin1] at h
  split at h
  ·cases h; exact ⟨rfl,fun i hi => noView_unTok hi _⟩
  ·rename_i r off n e; exact absurd e (hc r off n)
  ·cases h; exact ⟨rfl,fun _ h => h⟩
theorem pinN_eqvT (hv : Fix q v) {i : Nat} (hi : i ≠ s) (hn : noView (st.t i) = true) : ∀ n : Nat,EqvT s v st (·.pinN i n)
 | 0 => ⟨rfl,fun st' h => by cases h; exact ⟨rfl,fun _ h => h⟩⟩
 | n + 1 => by
   have h0 := pinN_eqvT hv hi hn n
   constructor
   ·show ((st.put' s v).pinN i n).bind (fun s1 => s1.pin1 i n) = ((st.pinN i n).bind fun s1 => s1.pin1 i n).map (·.put' s v)
    rw [show (st.put' s v).pinN i n = _ from h0.put]
    cases h : st.pinN i n with
    | none => rfl
    | some s1 =>
      simp only [Option.map_some,Option.bind_some]
      exact (pin1_eqvT hv hi ((h0.keep s1 h).2 i hn) n).put
   ·intro st' h
    have h : (st.pinN i n).bind (fun s1 => s1.pin1 i n) = some st' := h
    obtain ⟨s1,h1,h2⟩ := Option.bind_eq_some_iff.1 h
    obtain ⟨a1,a2⟩ := h0.keep s1 h1
    obtain ⟨b1,b2⟩ := (pin1_eqvT hv hi (a2 i hn) n).keep st' h2
    exact ⟨b1.trans a1,fun k hk => b2 k (a2 k hk)⟩
theorem pin_eqvT (hv : Fix q v) (hs : s < gs) {x : A} (hn : noView x = true) : St.pin (st.put' s v) x = (St.pin st x).map (fun y => (y.1,y.2.put' s v)) ∧ ∀ y st',St.pin st x = some (y,st') → st'.r = st.r ∧ ∀ i,noView (st.t i) = true → noView (st'.t i) = true := by
 have hne : gs ≠ s := by omega
 have hng : noView ((st.put' gs x).t gs) = true := by simpa [St.put'] using hn
 have h1 := pinN_eqvT (st := st.put' gs x) hv hne hng x.cells.length
 unfold St.pin
 refine ⟨?_,fun y st' h => ?_⟩
 ·rw [put'_put' x hne,show ((st.put' gs x).put' s v).pinN gs x.cells.length = _ from h1.put]
  cases (st.put' gs x).pinN gs x.cells.length with
  | none => rfl
  | some s1 =>
    simp only [Option.map_some,Option.bind_some,put'_ne hne]
    cases dat (s1.t gs) with
    | none => rfl
    | some u => simp only [Option.map_some,put'_put' A.any hne]
 ·obtain ⟨s1,e1,h⟩ := Option.bind_eq_some_iff.1 h
  obtain ⟨u,_,h⟩ := Option.map_eq_some_iff.1 h
  cases h
  obtain ⟨a1,a2⟩ := h1.keep _ e1
  refine ⟨a1,fun i hi => ?_⟩
  by_cases hg : i = gs
  ·subst hg; simp [St.put',noView,A.cells]
  ·have := a2 i (by simpa [St.put',hg] using hi)
   simpa [St.put',hg] using this
theorem opd_noView {st st' : St} {x : Opd} (h : noView (x.v st) = true) (hk : ∀ i,noView (st.t i) = true → noView (st'.t i) = true) : noView (x.v st') = true := by
 cases x with
 | c a => exact h
 | t i => exact hk i h
theorem fillQ_eqvT (hv : Fix q v) (hs : s < gs) {z : Nat} : ∀ (l : List (Nat × Opd)) (xs : List A) {st : St},(∀ p ∈ l,noView (p.2.v st) = true) → (∀ p ∈ l,s ∉ opdU p.2) →
 stepW.fillQ (st.put' s v) z xs l = (stepW.fillQ st z xs l).map (fun y => (y.1,y.2.put' s v)) ∧ ∀ y st',stepW.fillQ st z xs l = some (y,st') → st'.r = st.r
 | [],xs,st,hn,hl => ⟨rfl,fun y st' h => by cases h; rfl⟩
 | (i,x) :: l,xs,st,hn,hl => by
   have hx : x.v (st.put' s v) = x.v st := opd_put (hl (i,x) (by simp))
   obtain ⟨p1,p2⟩ := pin_eqvT (st := st) hv hs (hn (i,x) (by simp))
   have hl' : ∀ p ∈ l,s ∉ opdU p.2 := fun p hp => hl p (List.mem_cons_of_mem _ hp)
   refine ⟨?_,fun y st' h => ?_⟩
   ·simp only [stepW.fillQ,hx]
    rw [show St.pin (st.put' s v) (x.v st) = _ from p1]
    cases h : St.pin st (x.v st) with
    | none => rfl
    | some r =>
      obtain ⟨u,s1⟩ := r
      simp only [Option.map_some,Option.bind_some]
      split
      ·exact (fillQ_eqvT hv hs l _ (fun p hp => opd_noView (hn p (List.mem_cons_of_mem _ hp)) (p2 _ _ h).2) hl').1
      ·rfl
   ·simp only [stepW.fillQ] at h
    obtain ⟨⟨u,s1⟩,h1,h⟩ := Option.bind_eq_some_iff.1 h
    simp only at h
    split at h
    ·rw [(fillQ_eqvT hv hs l _ (fun p hp => opd_noView (hn p (List.mem_cons_of_mem _ hp)) (p2 _ _ h1).2) hl').2 _ _ h,(p2 _ _ h1).1]
    ·cases h
theorem bsl_eqvT {cf : CF} {io : Nat → List Bool} (hv : Fix q v) (hs : s < gs) {z n : Nat} {zero : A} {ps : List (Nat × Opd)} (hps : ∀ p ∈ ps,s ∉ opdU p.2) (hn : ∀ p ∈ ps,noView (p.2.v st) = true) (hd : d ≠ some s) (hq : ∀ p,q = some p → d ≠ some p) :
 Eqv q s v st (fun st => stepW cf io d st (.bsl z zero n ps)) := by
 have h := fillQ_eqvT hv hs (z := z) ps (List.replicate n zero) hn hps
 constructor
 ·show stepW cf io d (st.put' s v) (.bsl z zero n ps) = (stepW cf io d st (.bsl z zero n ps)).map _
  cases d with
  | none => rfl
  | some d =>
    simp only [stepW,h.1]
    split
    ·cases stepW.fillQ st z (List.replicate n zero) ps with
     | none => rfl
     | some r => simp only [Option.map_some]; rw [put_put' _ hd]
    ·rfl
 ·intro st' he p hp
  have he : stepW cf io d st (.bsl z zero n ps) = some st' := he
  cases d with
  | none => cases he
  | some d =>
    simp only [stepW] at he
    split at he
    ·obtain ⟨⟨xs,s1⟩,h1,he⟩ := Option.map_eq_some_iff.1 he
     cases he
     show s1.r p = st.r p
     rw [h.2 _ _ h1]
    ·cases he
end
section
variable {q d : Option Nat} {st : St} {v : A} {s : Nat}
theorem noView_kill {a : A} (h : noView a = true) (k : Nat) : noView (comps (kill1 k) a) = true := by
 have one : ∀ c : A,(match c with | .view .. => false | _ => true) = true → (match kill1 k c with | .view .. => false | _ => true) = true := fun c hc => by
  by_cases e : refs1 k c = true
  ·rw [kill1,if_pos e]
  ·rw [kill1,if_neg e]; exact hc
 cases a <;> first
  | (simp only [noView,comps,A.cells,List.all_map,List.all_eq_true] at h ⊢
     exact fun c hc => one c (h c hc))
  | (simp only [comps,kill1]; split <;> first | rfl | exact h)
  | rfl
theorem noView_killTok {a : A} (h : noView a = true) (k : Nat) : noView (comps (killTok1 k) a) = true := by
 have one : ∀ c : A,(match c with | .view .. => false | _ => true) = true → (match killTok1 k c with | .view .. => false | _ => true) = true := fun c hc => by
  by_cases e : isTok1 k c = true
  ·rw [killTok1,if_pos e]
  ·rw [killTok1,if_neg e]; exact hc
 cases a <;> first
  | (simp only [noView,comps,A.cells,List.all_map,List.all_eq_true] at h ⊢
     exact fun c hc => one c (h c hc))
  | (simp only [comps,killTok1]; split <;> first | rfl | exact h)
  | rfl
theorem own1_far (j : Nat) {i : Nat} (hi : i ≠ gs + j) (h : noView (st.t i) = true) : noView ((st.own1 j).t i) = true := by
 unfold St.own1
 split
 ·simp only [St.put',if_neg hi,St.setRoot,St.kill,St.killTok,St.map]
  exact noView_kill (noView_killTok h _) _
 ·simp only [St.put',if_neg hi,St.setRoot,St.kill,St.map]
  exact noView_kill h _
 ·exact h
theorem pinAll_eqvN (hv : Fix q v) (hs : s < gs) (hp3 : ∀ p,q = some p → p < 1002000) : ∀ (n : Nat) (bs : List Bool) (j : Nat) {st : St},(∀ i,j ≤ i → noView (st.t (gs + i)) = true) → Eqv q s v st (fun x => St.pinAll x bs j n)
 | 0,bs,j,st,hn => by
   have e : ∀ x : St,St.pinAll x bs j 0 = some x := fun x => by cases bs with
    | nil => rfl
    | cons b bs => cases b <;> rfl
   exact ⟨by simp only [e]; rfl,fun st' h p hp => by rw [e] at h; cases h; rfl⟩
 | n + 1,bs,j,st,hn => by
   have hne : gs + j ≠ s := by omega
   have key : Eqv q s v st (fun x => (x.pinN (gs + j) (x.t (gs + j)).cells.length).bind fun st1 => St.pinAll st1 bs.tail (j + 1) n) := by
    have ht := pinN_eqvT (st := st) (s := s) hv hne (hn j (Nat.le_refl _)) (st.t (gs + j)).cells.length
    have h0 : Eqv q s v st (fun x => x.pinN (gs + j) (x.t (gs + j)).cells.length) :=
     ⟨by
       show (st.put' s v).pinN (gs + j) ((st.put' s v).t (gs + j)).cells.length = _
       rw [put'_ne hne]; exact ht.put,fun st' h p hp => by rw [(ht.keep st' h).1]⟩
    exact bind_eqv h0 fun st' h => pinAll_eqvN hv hs hp3 n bs.tail (j + 1) fun i hi => (ht.keep st' h).2 _ (hn i (by omega))
   cases bs with
   | nil => exact key
   | cons b bs =>
     cases b with
     | false => exact key
     | true =>
       obtain ⟨h1,h2⟩ := own1_eqv (st := st) hv hp3 hs j
       have h3 := pinAll_eqvN hv hs hp3 n bs (j + 1) (st := st.own1 j) fun i hi => own1_far j (by omega) (hn i (by omega))
       constructor
       ·show St.pinAll ((st.put' s v).own1 j) bs (j + 1) n = _
        rw [h1]; exact h3.put
       ·intro st' h p hp
        exact (h3.keep st' h p hp).trans (h2 p hp)
theorem callN_eqv {cf : CF} {io : Nat → List Bool} (hv : Fix q v) (hs : s < gs) (hp3 : ∀ p,q = some p → p < 1002000) {f : Opd} {args : List Opd} (hf : f.v (st.put' s v) = f.v st) (ha : args.map (Opd.v (st.put' s v)) = args.map (Opd.v st)) (hd : d ≠ some s)
 (hn : ∀ a ∈ args.map (Opd.v st),noView a = true) (hnc : ∀ g caps,f.v st = .fn g caps → ∀ a ∈ caps,noView a = true) (ht : ∀ p,q = some p → p ∉ touch st (.call f args)) (hF : ∀ i ∈ touch st (.call f args),Free q i) (hFd : ∀ i,d = some i → Free q i) :
 Eqv q s v st (fun st => stepW cf io d st (.call f args)) := by
 let G : Nat → Nat → St → Option St := fun g n st1 =>
  let vs := (List.range n).map fun j => st1.t (gs + j)
  (loans st1 (io g) vs).bind fun (ls,qs,ns) =>
    if decide ns.Nodup then
     (args1 { st1 with r := less st1.r ns } ls vs).bind fun as => (cf g as).bind fun (res,outs) =>
       (giveBack (st1.lay []) qs outs).bind fun st2 => landR st2 d res
    else none
 cases hfv : f.v st with
 | fn g caps =>
   have e : ∀ x : St,f.v x = .fn g caps → stepW cf io d x (.call f args) = ((x.lay (args.map (Opd.v x) ++ caps)).pinAll (io g) 0 (args.length + caps.length)).bind (G g (args.length + caps.length)) := fun x hx => by
    simp only [stepW,hx]; rfl
   have hnv : ∀ a ∈ args.map (Opd.v st) ++ caps,noView a = true := fun a h => (List.mem_append.1 h).elim (hn a) (hnc g caps hfv a)
   have hlay : ∀ i,0 ≤ i → noView ((st.lay (args.map (Opd.v st) ++ caps)).t (gs + i)) = true := fun i _ => by
    by_cases h0 : (st.lay (args.map (Opd.v st) ++ caps)).t (gs + i) = .any
    ·rw [h0]; rfl
    ·exact hnv _ (lay_at rfl h0)
   have h1 := pinAll_eqvN hv hs hp3 (args.length + caps.length) (io g) 0 hlay
   have hG : ∀ st1,(st.lay (args.map (Opd.v st) ++ caps)).pinAll (io g) 0 (args.length + caps.length) = some st1 → Eqv q s v st1 (G g (args.length + caps.length)) := fun st1 hp => by
    have hshr := pinAll_shr hp
    have hvs : ((List.range (args.length + caps.length)).map fun j => (st1.put' s v).t (gs + j)) = (List.range (args.length + caps.length)).map fun j => st1.t (gs + j) :=
     List.map_congr_left fun j _ => put'_ne (by omega)
    have hB : ∀ (ls : List (Option A)) (qs ns : List Nat),loans st1 (io g) ((List.range (args.length + caps.length)).map fun j => st1.t (gs + j)) = some (ls,qs,ns) → ns.Nodup → ∀ res outs : List A,
     Eqv q s v (st1.lay []) (fun x => (giveBack x qs outs).bind fun st2 => landR st2 d res) := fun ls qs ns hl hn res outs => by
     obtain ⟨g1,g2,g3⟩ := loans_qs _ _ hl hn
     have hin : ∀ (j : Nat) (a0 : A),a0 ≠ .any → (st.lay (args.map (Opd.v st) ++ caps)).t (gs + j) = a0 → ∀ m ∈ names st.r a0,m ∈ touch st (.call f args) := fun j a0 hne e m hm => by
      have := lay_at e hne
      simp only [touch,hfv]
      rcases List.mem_append.1 this with h' | h'
      ·exact List.mem_append_left _ (List.mem_flatMap.2 ⟨a0,h',hm⟩)
      ·exact List.mem_append_right _ (List.mem_flatMap.2 ⟨a0,h',hm⟩)
     have hfree : ∀ i ∈ qs,Free q i := fun i hi => by
      obtain ⟨a,ham,R,hR,hk⟩ := g3 i hi
      obtain ⟨j,_,rfl⟩ := List.mem_map.1 ham
      rcases hk with ⟨e,hb⟩ | ⟨n,e,hb⟩
      ·exact hF i (hin j _ (by intro e; cases e) (hshr.loc _ _ _ _ e) i (by simp [names,namesOf]))
      ·rcases hshr.view _ _ _ _ e with e1 | e1
       ·have := hlay j (Nat.zero_le _); rw [e1] at this; simp [noView,A.cells] at this
       ·exact Free.big hp3 e1
     have ho : Off q (st1.lay []).r qs := fun p hp i hi => by
      obtain ⟨a,ham,R,hR,hk⟩ := g3 i hi
      obtain ⟨j,_,rfl⟩ := List.mem_map.1 ham
      have hRr : st.r i = some R ∨ (1002000 ≤ i ∧ R.b = false) := by
       rcases hshr.r i with e | e | ⟨e,z,xs,e2⟩
       ·exact .inl (e.symm.trans hR)
       ·rw [e] at hR; cases hR
       ·exact .inr ⟨e,by rw [e2] at hR; cases hR; rfl⟩
      refine ⟨(hfree i hi p hp).1,fun R' x h2 h4 h3 hm => ?_⟩
      have h2 : st1.r i = some R' := h2
      rw [hR] at h2; cases h2
      rcases hk with ⟨e,hb⟩ | ⟨n,e,hb⟩
      ·have e0 := hin j _ (by intro e; cases e) (hshr.loc _ _ _ _ e)
       refine ht p hp (e0 p ?_)
       have hRr : st.r i = some R := by
        rcases hRr with h | ⟨_,h⟩
        ·exact h
        ·rw [hb] at h; cases h
       simp only [names,namesOf,hRr,h3,List.flatMap_cons,List.flatMap_nil,List.append_nil]
       exact List.mem_cons_of_mem _ hm
      ·rw [hb] at h4; cases h4
     have hg := giveBack_eqv (s := s) hv hfree g1 ho outs
     exact bind_eqv hg fun st' h' => landR_eqv hv hFd hd res
    constructor
    ·show G g (args.length + caps.length) (st1.put' s v) = (G g (args.length + caps.length) st1).map _
     simp only [G,hvs,loans_put]
     cases hl : loans st1 (io g) ((List.range (args.length + caps.length)).map fun j => st1.t (gs + j)) with
     | none => rfl
     | some y =>
       obtain ⟨ls,qs,ns⟩ := y
       simp only [Option.bind_some]
       by_cases hn : ns.Nodup
       ·simp only [hn,decide_true,if_true]
        have ea : args1 { (st1.put' s v) with r := less (st1.put' s v).r ns } ls ((List.range (args.length + caps.length)).map fun j => st1.t (gs + j)) = args1 { st1 with r := less st1.r ns } ls ((List.range (args.length + caps.length)).map fun j => st1.t (gs + j)) :=
         args1_put (st := { st1 with r := less st1.r ns }) _ _
        rw [ea]
        cases args1 { st1 with r := less st1.r ns } ls ((List.range (args.length + caps.length)).map fun j => st1.t (gs + j)) with
        | none => rfl
        | some as =>
          simp only [Option.bind_some]
          cases cf g as with
          | none => rfl
          | some y =>
            simp only [Option.bind_some,lay_put hs]
            exact (hB ls qs ns hl hn y.1 y.2).put
       ·simp only [hn,decide_false,Bool.false_eq_true,if_false]; rfl
    ·intro st' h p hp
     simp only [G] at h
     obtain ⟨⟨ls,qs,ns⟩,hl,h⟩ := Option.bind_eq_some_iff.1 h
     simp only at h
     split at h
     ·rename_i hn
      obtain ⟨as,_,h⟩ := Option.bind_eq_some_iff.1 h
      obtain ⟨⟨res,outs⟩,_,h⟩ := Option.bind_eq_some_iff.1 h
      exact (hB ls qs ns hl (by simpa using hn) res outs).keep st' h p hp
     ·cases h
   have h2 := bind_eqv h1 hG
   constructor
   ·show stepW cf io d (st.put' s v) (.call f args) = (stepW cf io d st (.call f args)).map _
    rw [e st hfv,e (st.put' s v) (hf.trans hfv),ha,lay_put hs]
    exact h2.put
   ·intro st' h p hp
    have h : stepW cf io d st (.call f args) = some st' := h
    rw [e st hfv] at h
    exact h2.keep st' h p hp
 | _ =>
   have e : ∀ x : St,f.v x = f.v st → stepW cf io d x (.call f args) = none := fun x hx => by simp only [stepW,hx,hfv]
   exact ⟨by rw [e _ hf,e _ rfl]; rfl,fun st' h => by rw [e _ rfl] at h; cases h⟩
def Sub (q : Option Nat) (i : Nat) : Prop := ∀ p,q = some p → ∀ c,c < 1000 → sub i c ≠ p
theorem take1_put (hv : Fix q v) {qq c : Nat} (hq : Sub q qq) (a : A) (st : St) : (take1 qq c (st.put' s v) a) = (take1 qq c st a).map (fun x => (x.1,x.2.put' s v)) := by
 unfold take1
 split
 ·split
  ·rename_i hc
   simp only [Option.map_some,St.kill]; rw [map_put (hv.kill fun p hp => hq p hp c hc),setRoot_put]
  ·rfl
 ·split <;> rfl
theorem takes_put (hv : Fix q v) {qq : Nat} (hq : Sub q qq) : ∀ (l : List A) (c : Nat) (st : St),(takes qq c (st.put' s v) l) = (takes qq c st l).map (fun x => (x.1,x.2.put' s v))
 | [],c,st => rfl
 | a :: l,c,st => by
   simp only [takes,take1_put hv hq a st]
   cases h : take1 qq c st a with
   | none => rfl
   | some y =>
     simp only [Option.map_some,Option.bind_some,takes_put hv hq l (c + 1) y.2]
     cases takes qq (c + 1) y.2 l <;> rfl
theorem blanks_put : ∀ (qs : List Nat) (l : List A) (st : St),blanks (st.put' s v) qs l = (blanks st qs l).map (·.put' s v)
 | [],[],st => rfl
 | [],_ :: _,st => rfl
 | _ :: _,[],st => rfl
 | i :: qs,a :: l,st => by
   cases a with
   | iob z xs =>
     cases xs with
     | nil => rfl
     | cons x xs =>
       cases xs with
       | cons _ _ => rfl
       | nil =>
         simp only [blanks,put'_r]
         cases hi : st.r i with
         | none => rfl
         | some R =>
           obtain ⟨b,zz,xs⟩ := R
           simp only [Option.bind_some]
           cases b with
           | false => rfl
           | true =>
             cases xs with
             | nil => rfl
             | cons x0 xs =>
               cases xs with
               | nil => exact blanks_put qs l { st with r := fun k => if k = i then some ⟨true,z,[reCell x (x.cells.map fun _ => .any)]⟩ else if (x0.cells.flatMap rootOf1).contains k then none else st.r k }
               | cons _ _ => rfl
   | ios z xs => exact blanks_put qs l (st.setRoot i (some ⟨false,z,xs⟩))
   | any => exact blanks_put qs l (st.setRoot i none)
   | _ => rfl
theorem takeOuts_put (hv : Fix q v) : ∀ (qs : List Nat) (l : List A) (st : St),(∀ i ∈ qs,Sub q i) → takeOuts (st.put' s v) qs l = (takeOuts st qs l).map (·.put' s v)
 | [],[],st,hq => rfl
 | [],_ :: _,st,hq => rfl
 | _ :: _,[],st,hq => rfl
 | i :: qs,a :: l,st,hq => by
   have hq2 : ∀ j ∈ qs,Sub q j := fun j hj => hq j (List.mem_cons_of_mem _ hj)
   cases a with
   | iob z xs =>
     cases xs with
     | nil => rfl
     | cons x xs =>
       cases xs with
       | cons _ _ => rfl
       | nil =>
         simp only [takeOuts,takes_put hv (hq i (by simp)) x.cells 0 st]
         split
         ·cases takes i 0 st x.cells with
          | none => rfl
          | some y => exact takeOuts_put hv qs l (y.2.setRoot i (some ⟨true,z,[reCell x y.1]⟩)) hq2
         ·rfl
   | ios z xs => exact takeOuts_put hv qs l st hq2
   | any => exact takeOuts_put hv qs l st hq2
   | _ => rfl
theorem giveBack_put (hv : Fix q v) {qs : List Nat} (hq : ∀ i ∈ qs,Sub q i) (os : List A) (st : St) : giveBack (st.put' s v) qs os = (giveBack st qs os).map (·.put' s v) := by
 simp only [giveBack,blanks_put]
 cases blanks st qs os with
 | none => rfl
 | some y => exact takeOuts_put hv qs os y hq
theorem callN_put {cf : CF} {io : Nat → List Bool} (hv : Fix q v) (hs : s < gs) (hp3 : ∀ p,q = some p → p < 1000) {f : Opd} {args : List Opd} (hf : f.v (st.put' s v) = f.v st) (ha : args.map (Opd.v (st.put' s v)) = args.map (Opd.v st)) (hd : d ≠ some s)
 (hn : ∀ a ∈ args.map (Opd.v st),noView a = true) (hnc : ∀ g caps,f.v st = .fn g caps → ∀ a ∈ caps,noView a = true) (hFd : ∀ i,d = some i → ∀ p,q = some p → i ≠ p) :
 stepW cf io d (st.put' s v) (.call f args) = (stepW cf io d st (.call f args)).map (·.put' s v) := by
 let G : Nat → Nat → St → Option St := fun g n st1 =>
  let vs := (List.range n).map fun j => st1.t (gs + j)
  (loans st1 (io g) vs).bind fun (ls,qs,ns) =>
    if decide ns.Nodup then
     (args1 { st1 with r := less st1.r ns } ls vs).bind fun as => (cf g as).bind fun (res,outs) =>
       (giveBack (st1.lay []) qs outs).bind fun st2 => landR st2 d res
    else none
 have hsub : ∀ i,Sub q i := fun i p hp c _ e => by have := hp3 p hp; unfold sub at e; omega
 cases hfv : f.v st with
 | fn g caps =>
   have e : ∀ x : St,f.v x = .fn g caps → stepW cf io d x (.call f args) = ((x.lay (args.map (Opd.v x) ++ caps)).pinAll (io g) 0 (args.length + caps.length)).bind (G g (args.length + caps.length)) := fun x hx => by
    simp only [stepW,hx]; rfl
   have hnv : ∀ a ∈ args.map (Opd.v st) ++ caps,noView a = true := fun a h => (List.mem_append.1 h).elim (hn a) (hnc g caps hfv a)
   have hlay : ∀ i,0 ≤ i → noView ((st.lay (args.map (Opd.v st) ++ caps)).t (gs + i)) = true := fun i _ => by
    by_cases h0 : (st.lay (args.map (Opd.v st) ++ caps)).t (gs + i) = .any
    ·rw [h0]; rfl
    ·exact hnv _ (lay_at rfl h0)
   have h1 := pinAll_eqvN hv hs (fun p hp => by have := hp3 p hp; omega) (args.length + caps.length) (io g) 0 hlay
   have hG : ∀ st1 : St,G g (args.length + caps.length) (st1.put' s v) = (G g (args.length + caps.length) st1).map (·.put' s v) := fun st1 => by
    have hvs : ((List.range (args.length + caps.length)).map fun j => (st1.put' s v).t (gs + j)) = (List.range (args.length + caps.length)).map fun j => st1.t (gs + j) :=
     List.map_congr_left fun j _ => put'_ne (by omega)
    simp only [G,hvs,loans_put]
    cases hl : loans st1 (io g) ((List.range (args.length + caps.length)).map fun j => st1.t (gs + j)) with
    | none => rfl
    | some y =>
      obtain ⟨ls,qs,ns⟩ := y
      simp only [Option.bind_some]
      by_cases hn : ns.Nodup
      ·simp only [hn,decide_true,if_true]
       have ea : args1 { (st1.put' s v) with r := less (st1.put' s v).r ns } ls ((List.range (args.length + caps.length)).map fun j => st1.t (gs + j)) = args1 { st1 with r := less st1.r ns } ls ((List.range (args.length + caps.length)).map fun j => st1.t (gs + j)) :=
        args1_put (st := { st1 with r := less st1.r ns }) _ _
       rw [ea]
       cases args1 { st1 with r := less st1.r ns } ls ((List.range (args.length + caps.length)).map fun j => st1.t (gs + j)) with
       | none => rfl
       | some as =>
         simp only [Option.bind_some]
         cases cf g as with
         | none => rfl
         | some y =>
           simp only [Option.bind_some,lay_put hs,giveBack_put hv (fun i _ => hsub i)]
           cases giveBack (st1.lay []) qs y.2 with
           | none => rfl
           | some z => exact (landR_eqv (st := z) (s := s) hv (fun i hi p hp => ⟨hFd i hi p hp,hsub i p hp⟩) hd y.1).put
      ·simp only [hn,decide_false,Bool.false_eq_true,if_false]; rfl
   rw [e st hfv,e (st.put' s v) (hf.trans hfv),ha,lay_put hs]
   have h2 := h1.put
   have h2 : St.pinAll ((st.lay (args.map (Opd.v st) ++ caps)).put' s v) (io g) 0 (args.length + caps.length) = _ := h2
   rw [h2]
   cases (st.lay (args.map (Opd.v st) ++ caps)).pinAll (io g) 0 (args.length + caps.length) with
   | none => rfl
   | some y => exact hG y
 | _ =>
   have e : ∀ x : St,f.v x = f.v st → stepW cf io d x (.call f args) = none := fun x hx => by simp only [stepW,hx,hfv]
   rw [e _ hf,e _ rfl]; rfl
end
end Go.Ab
