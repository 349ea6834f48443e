/- A reckoning of programs by symbols: what an operation makes of symbols is what it does: structs, rows, places. -/
import Derived.Test.YthfgdhobldejmaaYb
import Derived.Great.BuildSlice
namespace Go.Proofs.Ythfgdhobldejmaa
open Go Go.RowKit

theorem take_set (l : List Value) (k : Nat) (x : Value) (h : k < l.length) : (l.set k x).take (k + 1) = l.take k ++ [x] := by
  refine List.ext_getElem? fun j => ?_
  rcases Nat.lt_trichotomy j k with h1 | h1 | h1
  · rw [List.getElem?_take_of_lt (by omega), List.getElem?_set_ne (by omega), List.getElem?_append_left (by simp; omega), List.getElem?_take_of_lt h1]
  · subst h1
    rw [List.getElem?_take_of_lt (by omega), List.getElem?_set_self h, List.getElem?_append_right (by simp; omega)]
    have : (l.take j).length = j := by simp; omega
    rw [this, Nat.sub_self]; rfl
  · rw [List.getElem?_eq_none (by simp; omega), List.getElem?_eq_none (by simp; omega)]
theorem drop_set (l : List Value) (k m : Nat) (x : Value) (h : k < m) : (l.set k x).drop m = l.drop m := by
  refine List.ext_getElem? fun j => ?_
  rw [List.getElem?_drop, List.getElem?_drop, List.getElem?_set_ne (by omega)]
/-- Cells that are set one behind the other. -/
theorem set_run (off : Nat) : ∀ (l : List Value) (i : Nat) (c : Array Value), off + i + l.length ≤ c.size →
    ((l.zipIdx i).foldl (fun cs (x : Value × Nat) => cs.setIfInBounds (off + x.2) x.1) c).toList = c.toList.take (off + i) ++ l ++ c.toList.drop (off + i + l.length)
  | [], i, c, _ => by simp
  | x :: l, i, c, h => by
    simp only [List.length_cons] at h
    rw [List.zipIdx_cons, List.foldl_cons, set_run off l (i + 1) _ (by simp; omega)]
    simp only [Array.toList_setIfInBounds]
    rw [show off + (i + 1) = off + i + 1 by omega, take_set _ _ _ (by simp; omega), drop_set _ _ _ _ (by omega), show off + i + 1 + l.length = off + i + (l.length + 1) by omega]
    simp [List.append_assoc]

section
variable {β : Blocks} {ρ : List U} {P : Program} {tm : List AV} {h : Heap} {a : Act} {w : World} {nb nv : Nat} {o : Oper} {e : Eff}

/-- Parts' values. -/
theorem parts_den {l : List Operand} (hT : Ops β ρ tm a l) : ∀ {ps : List (Nat × Operand)} {xs : List (Nat × AV)}, (∀ p ∈ ps, p.2 ∈ l) → parts tm ps = some xs →
    xs.map (·.1) = ps.map (·.1) ∧ denL β ρ (xs.map (·.2)) = some (ps.map fun p => a.eval p.2)
  | [], xs, _, h => by unfold parts at h; simp at h; subst h; exact ⟨rfl, rfl⟩
  | (i, x) :: ps, xs, hx, h => by
    unfold parts at h
    cases h1 : opd tm x with
    | none => simp [h1] at h
    | some y =>
      cases h2 : parts tm ps with
      | none => simp [h1, h2] at h
      | some z =>
        simp [h1, h2] at h; subst h
        obtain ⟨h3, h4⟩ := parts_den hT (fun p hp => hx p (by simp [hp])) h2
        exact ⟨by simp [h3], denL_cons.2 ⟨_, _, opd_den hT (hx (i, x) (by simp)) h1, h4, rfl⟩⟩

theorem fill_den {place : Nat → Option (Nat × Nat)} : ∀ {xs : List (Nat × AV)} {ys : List (Nat × Value)} {cs ds : List AV} {vs : Array Value}, xs.map (·.1) = ys.map (·.1) → denL β ρ (xs.map (·.2)) = some (ys.map (·.2)) →
    denL β ρ cs = some vs.toList → fillAV place cs xs = some ds → ∃ us, Instr.fill place vs ys = some us ∧ denL β ρ ds = some us.toList
  | [], [], cs, ds, vs, _, _, hc, hf => by unfold fillAV at hf; simp at hf; subst hf; exact ⟨vs, rfl, hc⟩
  | [], _ :: _, _, _, _, h1, _, _, _ => by simp at h1
  | _ :: _, [], _, _, _, h1, _, _, _ => by simp at h1
  | (i, x) :: xs, (j, y) :: ys, cs, ds, vs, h1, h2, hc, hf => by
    simp only [List.map_cons, List.cons.injEq] at h1
    obtain ⟨rfl, h1⟩ := h1
    obtain ⟨u, us, hx, hxs, he⟩ := denL_cons.1 h2
    simp only [List.map_cons, List.cons.injEq] at he
    obtain ⟨rfl, rfl⟩ := he
    unfold fillAV at hf
    split at hf
    · rename_i off size hp
      split at hf
      · rename_i hcond
        have hcell := den_cells hx hcond.2.2
        have hl1 := denL_len hcell
        have hl2 := denL_len hc
        simp at hl1 hl2
        have hle : off + 0 + y.cells.toList.length ≤ vs.size := by simp; omega
        have hs := set_run off y.cells.toList 0 vs hle
        have hd : denL β ρ (splice cs off x.cells) = some ((y.cells.toList.zipIdx 0).foldl (fun cs (x : Value × Nat) => cs.setIfInBounds (off + x.2) x.1) vs).toList := by
          rw [hs]
          simpa using denL_splice (off := off) hc hcell
        obtain ⟨us, h3, h4⟩ := fill_den h1 hxs hd hf
        refine ⟨us, ?_, h4⟩
        unfold Instr.fill
        rw [hp]
        dsimp only
        rw [if_neg (by simp; omega)]
        rw [← h3]
        congr 1
        rw [← Array.foldl_toList]
        simp
      · simp at hf
    · simp at hf

theorem places_eq : ∀ {fs : List Field} {pl : List (Nat × Nat)}, places P fs = some pl → fs.mapM (fun f => (P.info? f.type).map fun i => (f.offset, i.size)) = some pl
  | [], pl, h => by unfold places at h; simp at h; subst h; rfl
  | f :: fs, pl, h => by
    unfold places at h
    cases h1 : tSize P f.type with
    | none => simp [h1] at h
    | some n =>
      cases h2 : places P fs with
      | none => simp [h1, h2] at h
      | some y =>
        simp [h1, h2] at h; subst h
        have h3 := size_info h1
        cases hi : P.info? f.type with
        | none => simp [hi] at h3
        | some i =>
          simp [hi] at h3
          simp [List.mapM_cons, hi, h3, places_eq h2]

theorem ok_build {t : TypeId} {ps : Array (Nat × Operand)} (ho : o.op = .build t ps) (he : evBuild P tm t ps.toList = some e) (hT : Ops β ρ tm a (ps.toList.map (·.2))) : Does P o a w β ρ nb e := by
  unfold evBuild at he
  split at he
  · rename_i xs z hx hz
    obtain ⟨h1, h2⟩ := parts_den (a := a) hT (fun p hp => List.mem_map.2 ⟨p, hp, rfl⟩) hx
    have hz' := hz
    unfold tZero at hz
    split at hz
    · rename_i it hit
      split at hz
      · rename_i zv hzv
        have hzd : denL β ρ z.cells = some zv.cells.toList := den_cells (constAV_den hz) (constAV_val hz)
        have k1 : xs.map (·.1) = (ps.toList.map fun (i, x) => (i, a.eval x)).map (·.1) := by rw [h1]; simp
        have k2 : denL β ρ (xs.map (·.2)) = some ((ps.toList.map fun (i, x) => (i, a.eval x)).map (·.2)) := by rw [h2]; simp
        have fin : ∀ {cs : List AV} {us : Array Value}, P.built t (ps.map fun (i, x) => (i, a.eval x)).toList = some us → denL β ρ cs = some us.toList → Does P o a w β ρ nb { val := .agg cs } := by
          intro cs us hb hd
          refine Does.value (v := .agg us) ?_ ?_ rfl rfl
          · unfold execOp; rw [ho]
            simp only [Sem.run_bind, run_build w t _ us hb, Result.andThen_ok, Sem.run_pure]
          · unfold den; rw [hd]
        split at he
        · rename_i fs hu
          split at he
          · rename_i pl hpl
            split at he
            · rename_i cs hcs
              simp at he; subst he
              obtain ⟨us, h3, h4⟩ := fill_den k1 k2 hzd hcs
              refine fin ?_ h4
              unfold Program.built
              rw [hit, hu]
              simp only [hzv, places_eq hpl, Array.toList_map]
              have : (fun (x : Nat) => pl.toArray[x]?) = fun (i : Nat) => pl[i]? := by funext x; simp
              rw [this]; exact h3
            · simp at he
          · simp at he
        · rename_i n el hu
          split at he
          · rename_i k hk
            split at he
            · rename_i cs hcs
              simp at he; subst he
              obtain ⟨us, h3, h4⟩ := fill_den k1 k2 hzd hcs
              refine fin ?_ h4
              have h5 := size_info hk
              cases hi : P.info? el with
              | none => simp [hi] at h5
              | some ie =>
                simp [hi] at h5
                unfold Program.built
                rw [hit, hu]
                simp only [hzv, hi, Array.toList_map, h5]
                exact h3
            · simp at he
          · simp at he
        · simp at he
      · simp at hz
    · simp at hz
  · simp at he

theorem denL_map {l : List Nat} {f : Nat → AV} {g : Nat → Value} (h : ∀ i ∈ l, den β ρ (f i) = some (g i)) : denL β ρ (l.map f) = some (l.map g) := by
  induction l with
  | nil => rfl
  | cons x l ih => exact denL_cons.2 ⟨_, _, h x (by simp), ih (fun i hi => h i (by simp [hi])), rfl⟩

theorem ok_slice {t : TypeId} {len : Nat} {ps : Array (Nat × Operand)} (ho : o.op = .buildSlice t len ps) (he : evSlice P tm nb t len ps.toList = some e) (hT : Ops β ρ tm a (ps.toList.map (·.2))) (hnb : β nb = none) : Does P o a w β ρ nb e := by
  unfold evSlice at he
  split at he
  · rename_i el hu
    split at he
    · rename_i xs n z hx hn hz
      split at he
      · rename_i hcond
        obtain ⟨c1, c2, c3, c4⟩ := hcond
        split at he
        · rename_i cs hcs
          split at he
          · simp at he; subst he
            obtain ⟨h1, h2⟩ := parts_den (a := a) hT (fun p hp => List.mem_map.2 ⟨p, hp, rfl⟩) hx
            have k1 : xs.map (·.1) = (ps.toList.map fun (i, x) => (i, a.eval x)).map (·.1) := by rw [h1]; simp
            have k2 : denL β ρ (xs.map (·.2)) = some ((ps.toList.map fun (i, x) => (i, a.eval x)).map (·.2)) := by rw [h2]; simp
            unfold tZero at hz
            split at hz
            · rename_i ie hie
              split at hz
              · rename_i zv hzv
                have hzd : denL β ρ z.cells = some zv.cells.toList := den_cells (constAV_den hz) (constAV_val hz)
                have hlz := denL_len hzd
                simp at hlz
                have hsz : ie.size = n := by have := size_info hn; simpa [hie] using this
                have hrow : denL β ρ (zeros z.cells (len * n)) = some ((Array.range (len * ie.size)).map (zv.cells[· % zv.cells.size]!)).toList := by
                  rw [Array.toList_map, Array.toList_range, hsz]
                  unfold zeros
                  refine denL_map (fun i _ => ?_)
                  have hlt : i % z.cells.length < z.cells.length := Nat.mod_lt _ (by omega)
                  obtain ⟨u, h5, h6⟩ := denL_get hzd (List.getElem?_eq_getElem hlt)
                  rw [List.getD_eq_getElem?_getD, List.getElem?_eq_getElem hlt, Option.getD_some, h5, hlz]
                  congr 1
                  rw [getElem!_def, ← Array.getElem?_toList, h6]
                obtain ⟨us, h3, h4⟩ := fill_den k1 k2 hrow hcs
                have hbig : ¬ len * ie.size > 2 ^ 24 := by rw [hsz]; omega
                have hpos : ¬ len * ie.size = 0 := by rw [hsz]; have := Nat.mul_pos c3 c2; omega
                have hrun := run_buildSlice (P := P) w t el len (ps.map fun (i, x) => (i, a.eval x)) us ie zv hu hie hzv hbig hpos (by rw [Array.toList_map]; rw [hsz] at h3 ⊢; exact h3)
                refine Does.alloc (xs := us.toList) (t := el) (cs := cs) (.slice (some ⟨w.heap.size, 0, none⟩) len len) ?_ h4 hnb rfl rfl ?_
                · unfold execOp; rw [ho]
                  simp only [Sem.run_bind, hrun, Result.andThen_ok, Sem.run_pure, Array.toArray_toList]
                · unfold den; rw [extB_same]
              · simp at hz
            · simp at hz
          · simp at he
        · simp at he
      · simp at he
    · simp at he
  · simp at he

/-! Places -/
theorem add_at (n o i : Nat) : (⟨n, o, none⟩ : Addr).add i = ⟨n, o + i, none⟩ := Addr.add_mid n o i
theorem ok_indexAddr {t : TypeId} {x i : Operand} (ho : o.op = .indexAddr t x i) (he : evIxA P tm t x i = some e) (hT : Ops β ρ tm a [x, i]) : Does P o a w β ρ nb e := by
  unfold evIxA at he
  split at he
  · rename_i b off k n hx hi
    obtain ⟨m, h1, h2⟩ := den_ptr (opd_den hT (by simp) hx)
    obtain ⟨n', h3, h4⟩ := den_it (opd_den hT (by simp) hi)
    simp [E.ev] at h3; subst h3
    split at he
    · rename_i len el hu
      split at he
      · rename_i s hs
        split at he
        · rename_i hc
          simp at he; subst he
          refine Does.value (v := .pointer (some ⟨m, off + n.toNat * s, none⟩)) ?_ (by unfold den; rw [h1]) rfl rfl
          unfold execOp; rw [ho]
          simp [Instr.indexAt, h2, h4, asIntOf, run_underlying hu w, Instr.sureAddr, run_size hs, hc, add_at]
        · simp at he
      · simp at he
    · simp at he
  · rename_i b off len cap k n hx hi
    obtain ⟨m, h1, h2⟩ := den_slc (opd_den hT (by simp) hx)
    obtain ⟨n', h3, h4⟩ := den_it (opd_den hT (by simp) hi)
    simp [E.ev] at h3; subst h3
    split at he
    · rename_i el hu
      split at he
      · rename_i s hs
        split at he
        · rename_i hc
          simp at he; subst he
          refine Does.value (v := .pointer (some ⟨m, off + n.toNat * s, none⟩)) ?_ (by unfold den; rw [h1]) rfl rfl
          unfold execOp; rw [ho]
          simp [Instr.indexAt, h2, h4, asIntOf, run_underlying hu w, run_size hs, hc, add_at]
        · simp at he
      · simp at he
    · simp at he
  · simp at he

theorem ok_index {t : TypeId} {x i : Operand} (ho : o.op = .index t x i) (he : evIx P tm t x i = some e) (hT : Ops β ρ tm a [x, i]) : Does P o a w β ρ nb e := by
  unfold evIx at he
  split at he
  · rename_i cs k n hx hi
    obtain ⟨xs, h1, h2⟩ := den_agg (opd_den hT (by simp) hx)
    obtain ⟨n', h3, h4⟩ := den_it (opd_den hT (by simp) hi)
    simp [E.ev] at h3; subst h3
    split at he
    · rename_i len el hu
      split at he
      · rename_i s hs
        split at he
        · rename_i hc
          split at he
          · rename_i v hv
            simp at he; subst he
            obtain ⟨u, h5, h6⟩ := run_part hv h1 w
            refine Does.value (v := u) ?_ h6 rfl rfl
            unfold execOp; rw [ho]
            simp [Instr.index, h2, h4, asIntOf, run_underlying hu w, run_size hs, hc, h5]
          · simp at he
        · simp at he
      · simp at he
    · simp at he
  · simp at he

theorem field_of {t : TypeId} {f : Nat} {fd : Field} (hf : fieldOf P t f = some fd) : ∃ fs, P.underlying t = some (.struct fs) ∧ fs[f]? = some fd := by
  unfold fieldOf at hf
  split at hf
  · rename_i fs hu; exact ⟨fs, hu, hf⟩
  · simp at hf
theorem ok_fieldAddr {t : TypeId} {x : Operand} {f : Nat} (ho : o.op = .fieldAddr t x f) {b off : Nat} (hx : opd tm x = some (.ptr b off)) {fd : Field} (hf : fieldOf P t f = some fd) {n : Nat} (hn : tSize P fd.type = some n) (hpos : 0 < n)
    (he : e = { val := .ptr b (off + fd.offset) }) (hT : Ops β ρ tm a [x]) : Does P o a w β ρ nb e := by
  subst he
  obtain ⟨m, h1, h2⟩ := den_ptr (opd_den hT (by simp) hx)
  obtain ⟨fs, hu, hfs⟩ := field_of hf
  refine Does.value (v := .pointer (some ⟨m, off + fd.offset, none⟩)) ?_ (by unfold den; rw [h1]) rfl rfl
  unfold execOp; rw [ho]
  have hne : n ≠ 0 := by omega
  simp [Instr.fieldAt, h2, run_underlying hu w, hfs, Instr.sureAddr, fieldPlace, run_size hn, hne, add_at]
theorem ok_field {t : TypeId} {x : Operand} {f : Nat} (ho : o.op = .field t x f) {cs : List AV} (hx : opd tm x = some (.agg cs)) {fd : Field} (hf : fieldOf P t f = some fd) {v : AV} (hv : partAV P fd.type cs fd.offset = some v)
    (he : e = { val := v }) (hT : Ops β ρ tm a [x]) : Does P o a w β ρ nb e := by
  subst he
  obtain ⟨xs, h1, h2⟩ := den_agg (opd_den hT (by simp) hx)
  obtain ⟨fs, hu, hfs⟩ := field_of hf
  obtain ⟨u, h5, h6⟩ := run_part hv h1 w
  refine Does.value (v := u) ?_ h6 rfl rfl
  unfold execOp; rw [ho]
  simp [Instr.field, h2, run_underlying hu w, hfs, asAgg, h5]
end
end Go.Proofs.Ythfgdhobldejmaa
