/- A reckoning of programs by symbols: calls by contracts. -/
import Derived.Test.YthfgdhobldejmaaYc
namespace Go.Proofs.Ythfgdhobldejmaa
open Go Go.RowKit

theorem U.same_eq {x y : U} (h : x.same y = true) : x = y := by
  cases x <;> cases y <;> simp [U.same] at h <;> first | (rw [h]; done) | rfl
theorem E.same_eq {x y : E} (h : x.same y = true) : x = y := by
  cases x <;> cases y <;> simp [E.same] at h
  · rw [h]
  · rw [U.same_eq h]
mutual
theorem AV.same_eq : ∀ (a b : AV), a.same b = true → a = b
  | .fl a, b, h => by cases b <;> simp [AV.same] at h; rw [E.same_eq h]
  | .it k a, b, h => by cases b <;> simp [AV.same] at h; rw [h.1, E.same_eq h.2]
  | .bo a, b, h => by cases b <;> simp [AV.same] at h; rw [E.same_eq h]
  | .ptr x y, b, h => by cases b <;> simp [AV.same] at h; rw [h.1, h.2]
  | .pnil, b, h => by cases b <;> simp [AV.same] at h; rfl
  | .slc x y z t, b, h => by cases b <;> simp [AV.same] at h; rw [h.1.1.1, h.1.1.2, h.1.2, h.2]
  | .snil, b, h => by cases b <;> simp [AV.same] at h; rfl
  | .fn f x y, b, h => by
    cases b with
    | fn f' x' y' => simp [AV.same] at h; rw [h.1.1, sameL_eq x x' h.1.2, sameL_eq y y' h.2]
    | _ => simp [AV.same] at h
  | .fnil, b, h => by cases b <;> simp [AV.same] at h; rfl
  | .agg l, b, h => by
    cases b with
    | agg l' => simp [AV.same] at h; rw [sameL_eq l l' h]
    | _ => simp [AV.same] at h
  | .tup l, b, h => by
    cases b with
    | tup l' => simp [AV.same] at h; rw [sameL_eq l l' h]
    | _ => simp [AV.same] at h
  | .und, b, h => by cases b <;> simp [AV.same] at h; rfl
  | .str s, b, h => by cases b <;> simp [AV.same] at h
  | .val e t, b, h => by cases b <;> simp [AV.same] at h; rw [E.same_eq h.1, h.2]
theorem sameL_eq : ∀ (a b : List AV), sameL a b = true → a = b
  | [], b, h => by cases b <;> simp [sameL] at h; rfl
  | x :: a, b, h => by
    cases b with
    | nil => simp [sameL] at h
    | cons y b => simp [sameL] at h; rw [AV.same_eq x y h.1, sameL_eq a b h.2]
end

/-- A pattern's variables and blocks, and what they are at the call. -/
structure Corr (βc : Blocks) (ρc : List U) (β : Blocks) (ρ : List U) (s : List E) (μ : List Nat) : Prop where
  e : ∀ (n : Nat) (x : E), s[n]? = some x → ρc[n]? = some ((x.ev ρ).getD .no)
  b : ∀ (n k : Nat), μ[n]? = some k → βc n = β k

section
variable {βc β : Blocks} {ρc ρ : List U} {s : List E} {μ : List Nat}
theorem subE_fl (C : Corr βc ρc β ρ s μ) {x y : E} (h : subE s x = some y) : den βc ρc (.fl x) = den β ρ (.fl y) := by
  cases x with
  | v n =>
    have h1 := C.e n y (by simpa [subE] using h)
    unfold den
    rw [show (E.v n).ev ρc = ρc[n]? from rfl, h1]
    cases y.ev ρ <;> rfl
  | l u => simp [subE] at h; subst h; rfl
theorem subE_it (C : Corr βc ρc β ρ s μ) {x y : E} (k : IntKind) (h : subE s x = some y) : den βc ρc (.it k x) = den β ρ (.it k y) := by
  cases x with
  | v n =>
    have h1 := C.e n y (by simpa [subE] using h)
    unfold den
    rw [show (E.v n).ev ρc = ρc[n]? from rfl, h1]
    cases y.ev ρ <;> rfl
  | l u => simp [subE] at h; subst h; rfl
theorem subE_bo (C : Corr βc ρc β ρ s μ) {x y : E} (h : subE s x = some y) : den βc ρc (.bo x) = den β ρ (.bo y) := by
  cases x with
  | v n =>
    have h1 := C.e n y (by simpa [subE] using h)
    unfold den
    rw [show (E.v n).ev ρc = ρc[n]? from rfl, h1]
    cases y.ev ρ <;> rfl
  | l u => simp [subE] at h; subst h; rfl
theorem subE_val (C : Corr βc ρc β ρ s μ) {x y : E} (t : Nat) (h : subE s x = some y) : den βc ρc (.val x t) = den β ρ (.val y t) := by
  cases x with
  | v n =>
    have h1 := C.e n y (by simpa [subE] using h)
    unfold den
    rw [show (E.v n).ev ρc = ρc[n]? from rfl, h1]
    cases y.ev ρ <;> rfl
  | l u => simp [subE] at h; subst h; rfl
mutual
theorem sub_den (C : Corr βc ρc β ρ s μ) : ∀ (p : AV) {q : AV}, sub s μ p = some q → den βc ρc p = den β ρ q
  | .fl x, q, h => by
    unfold sub at h
    split at h
    · rename_i y hy; simp at h; subst h; exact subE_fl C hy
    · simp at h
  | .it k x, q, h => by
    unfold sub at h
    split at h
    · rename_i y hy; simp at h; subst h; exact subE_it C k hy
    · simp at h
  | .bo x, q, h => by
    unfold sub at h
    split at h
    · rename_i y hy; simp at h; subst h; exact subE_bo C hy
    · simp at h
  | .ptr b o, q, h => by
    unfold sub at h
    split at h
    · rename_i k hk; simp at h; subst h; unfold den; rw [C.b _ _ hk]
    · simp at h
  | .pnil, q, h => by unfold sub at h; simp at h; subst h; rfl
  | .slc b o x y, q, h => by
    unfold sub at h
    split at h
    · rename_i k hk; simp at h; subst h; unfold den; rw [C.b _ _ hk]
    · simp at h
  | .snil, q, h => by unfold sub at h; simp at h; subst h; rfl
  | .fn f a c, q, h => by
    unfold sub at h
    split at h
    · rename_i x y hx hy; simp at h; subst h; unfold den; rw [subL_den C a hx, subL_den C c hy]
    · simp at h
  | .fnil, q, h => by unfold sub at h; simp at h; subst h; rfl
  | .agg l, q, h => by
    unfold sub at h
    split at h
    · rename_i x hx; simp at h; subst h; unfold den; rw [subL_den C l hx]
    · simp at h
  | .tup l, q, h => by
    unfold sub at h
    split at h
    · rename_i x hx; simp at h; subst h; unfold den; rw [subL_den C l hx]
    · simp at h
  | .und, q, h => by unfold sub at h; simp at h; subst h; rfl
  | .str x, q, h => by unfold sub at h; simp at h; subst h; rfl
  | .val x t, q, h => by
    unfold sub at h
    split at h
    · rename_i y hy; simp at h; subst h; exact subE_val C t hy
    · simp at h
theorem subL_den (C : Corr βc ρc β ρ s μ) : ∀ (p : List AV) {q : List AV}, subL s μ p = some q → denL βc ρc p = denL β ρ q
  | [], q, h => by unfold subL at h; simp at h; subst h; rfl
  | a :: l, q, h => by
    unfold subL at h
    split at h
    · rename_i x y hx hy
      simp at h; subst h
      rw [denL, denL, sub_den C a hx, subL_den C l hy]
    · simp at h
end
theorem subEs_ev (C : Corr βc ρc β ρ s μ) : ∀ {l a : List E} {us : List U}, subEs s l = some a → evs ρ a = some us → evs ρc l = some us
  | [], a, us, h, k => by unfold subEs at h; simp at h; subst h; exact k
  | x :: l, a, us, h, k => by
    unfold subEs at h
    split at h
    · rename_i y z hy hz
      simp at h; subst h
      unfold evs at k ⊢
      cases h1 : y.ev ρ with
      | none => simp [h1] at k
      | some u =>
        cases h2 : evs ρ z with
        | none => simp [h1, h2] at k
        | some vs =>
          have h3 : x.ev ρc = some u := by
            cases x with
            | v n =>
              have h4 := C.e n y (by simpa [subE] using hy)
              rw [h1] at h4
              exact h4
            | l u' => simp [subE] at hy; subst hy; exact h1
          rw [h3, subEs_ev C hz h2]
          simpa [h1, h2] using k
    · simp at h
end

theorem news_len (nv : Nat) : ∀ m, (news nv m).length = m
  | 0 => rfl
  | m + 1 => by rw [news, List.length_cons, news_len]
theorem news_get : ∀ (m nv i : Nat), i < m → (news nv m)[i]? = some (.v (nv + i))
  | m + 1, nv, 0, _ => rfl
  | m + 1, nv, i + 1, h => by
    rw [news, List.getElem?_cons_succ, news_get m (nv + 1) i (by omega)]
    rw [show nv + 1 + i = nv + (i + 1) by omega]

/-- The variables' numbers at the call. -/
def rhoC (ρ : List U) (s : List E) : List U := s.map fun x => (x.ev ρ).getD .no
theorem rhoC_get {ρ : List U} {s : List E} {n : Nat} {x : E} (h : s[n]? = some x) : (rhoC ρ s)[n]? = some ((x.ev ρ).getD .no) := by
  unfold rhoC; rw [List.getElem?_map, h]; rfl

theorem subBinds_pre : ∀ {l : List Bind} {nv : Nat} {s s' : List E} {bs : List Bind}, subBinds nv l s = some (bs, s') → ∃ t, s' = s ++ t
  | [], nv, s, s', bs, h => by unfold subBinds at h; simp at h; exact ⟨[], by simp [h.2]⟩
  | b :: l, nv, s, s', bs, h => by
    unfold subBinds at h
    split at h
    · split at h
      · rename_i bs1 s1 h1
        simp at h
        obtain ⟨t, ht⟩ := subBinds_pre h1
        exact ⟨news nv b.m ++ t, by rw [← h.2, ht, List.append_assoc]⟩
      · simp at h
    · simp at h
theorem subBinds_at {βc β : Blocks} {ρ : List U} {μ : List Nat} (full : List E) : ∀ {l : List Bind} {nv : Nat} {s s' : List E} {bs : List Bind}, subBinds nv l s = some (bs, s') → (∃ t, full = s' ++ t) → Corr βc (rhoC ρ full) β ρ full μ →
    BindsAt ρ nv bs → BindsAt (rhoC ρ full) s.length l
  | [], nv, s, s', bs, _, _, _, _ => trivial
  | b :: l, nv, s, s', bs, h, hp, C, hb => by
    unfold subBinds at h
    split at h
    · rename_i a ha
      split at h
      · rename_i bs1 s1 h1
        simp at h
        obtain ⟨rfl, rfl⟩ := h
        obtain ⟨⟨us, h2, h3⟩, hb2⟩ := hb
        obtain ⟨t1, ht1⟩ := subBinds_pre h1
        obtain ⟨t, ht⟩ := hp
        have hfull : full = s ++ (news nv b.m ++ (t1 ++ t)) := by rw [ht, ht1]; simp [List.append_assoc]
        have Cs : Corr βc (rhoC ρ full) β ρ s μ := ⟨fun n x hx => C.e n x (by rw [hfull, List.getElem?_append_left (by have := (List.getElem?_eq_some_iff.1 hx).1; omega)]; exact hx), C.b⟩
        refine ⟨⟨us, subEs_ev Cs ha h2, fun i hi => ?_⟩, ?_⟩
        · have hg : full[s.length + i]? = some (.v (nv + i)) := by
            rw [hfull, List.getElem?_append_right (by omega), List.getElem?_append_left (by rw [news_len]; omega), show s.length + i - s.length = i by omega]
            exact news_get _ _ _ hi
          rw [rhoC_get hg]
          have h4 := h3 i hi
          rw [show (E.v (nv + i)).ev ρ = ρ[nv + i]? from rfl, h4]; rfl
        · have := subBinds_at full h1 ⟨t, ht⟩ C hb2
          rw [List.length_append, news_len] at this
          exact this
      · simp at h
    · simp at h
theorem subNeeds_at {βc β : Blocks} {ρc ρ : List U} {s : List E} {μ : List Nat} (C : Corr βc ρc β ρ s μ) : ∀ {l ns : List Need}, subNeeds s l = some ns → NeedsAt ρ ns → NeedsAt ρc l
  | [], ns, _, _ => fun n hn => by cases hn
  | x :: l, ns, h, hn => by
    unfold subNeeds at h
    split at h
    · rename_i a y ha hy
      simp at h; subst h
      intro n hmem
      rcases List.mem_cons.1 hmem with rfl | hmem
      · obtain ⟨us, h1, h2⟩ := hn _ (List.mem_cons_self)
        exact ⟨us, subEs_ev C ha h1, h2⟩
      · exact subNeeds_at C hy (fun m hm => hn m (List.mem_cons_of_mem _ hm)) n hmem
    · simp at h
theorem subUpd_in {s : List E} {μ : List Nat} : ∀ {l l' : List (Nat × List AV)}, subUpd s μ l = some l' → ∀ k c, (k, c) ∈ l' → ∃ k0 c0, (k0, c0) ∈ l ∧ μ[k0]? = some k ∧ subL s μ c0 = some c
  | [], l', h, k, c, hm => by unfold subUpd at h; simp at h; subst h; cases hm
  | (k1, c1) :: l, l', h, k, c, hm => by
    unfold subUpd at h
    split at h
    · rename_i n d y h1 h2 h3
      simp at h; subst h
      rcases List.mem_cons.1 hm with e | hm
      · simp at e; obtain ⟨rfl, rfl⟩ := e; exact ⟨k1, c1, by simp, h1, h2⟩
      · obtain ⟨k0, c0, h4, h5, h6⟩ := subUpd_in h3 k c hm
        exact ⟨k0, c0, by simp [h4], h5, h6⟩
    · simp at h
theorem subUpd_out {s : List E} {μ : List Nat} : ∀ {l l' : List (Nat × List AV)}, subUpd s μ l = some l' → ∀ k0 c0, (k0, c0) ∈ l → ∃ k c, (k, c) ∈ l' ∧ μ[k0]? = some k ∧ subL s μ c0 = some c
  | [], l', h, k, c, hm => by cases hm
  | (k1, c1) :: l, l', h, k, c, hm => by
    unfold subUpd at h
    split at h
    · rename_i n d y h1 h2 h3
      simp at h; subst h
      rcases List.mem_cons.1 hm with e | hm
      · simp at e; obtain ⟨rfl, rfl⟩ := e; exact ⟨n, d, by simp, h1, h2⟩
      · obtain ⟨k0, c0, h4, h5, h6⟩ := subUpd_out h3 k c hm
        exact ⟨k0, c0, by simp [h4], h5, h6⟩
    · simp at h

/-- A call: of a function with a text, or of one that answers at once. -/
def Goes (P : Program) (f : Nat) (args : Array Value) (w : World) (Q : Ending → World → Prop) : Prop :=
  ((callFunc f args).run P w = .ok (.enter f args) w ∧ Calls P f args w Q) ∨ ∃ v, (callFunc f args).run P w = .ok (.value v) w ∧ Q (.returned v) w
theorem Goes.mono {P : Program} {f : Nat} {args : Array Value} {w : World} {Q Q' : Ending → World → Prop} (h : Goes P f args w Q) (k : ∀ e w', Q e w' → Q' e w') : Goes P f args w Q' := by
  rcases h with ⟨h1, h2⟩ | ⟨v, h1, h2⟩
  · exact .inl ⟨h1, h2.mono k⟩
  · exact .inr ⟨v, h1, k _ _ h2⟩
/-- A contract holds. -/
structure CtOk (P : Program) (f : Nat) (ct : Ct) : Prop where
  call : ∀ (β : Blocks) (ρ : List U) (w : World) (vs : List Value), (∀ k l n, β k = some n → β l = some n → k = l) → (∀ k n, β k = some n → n < w.heap.size) → (∀ k, ct.blks.length ≤ k → β k = none) →
    (∀ k c, ct.blks[k]? = some c → ∃ n us, β k = some n ∧ denL β ρ c = some us ∧ CellsAt n us w) → denL β ρ ct.args = some vs → ct.m ≤ ρ.length → BindsAt ρ ct.m ct.eff.binds → NeedsAt ρ ct.eff.needs →
    Goes P f vs.toArray w fun e w' => ∃ β' v, Post β β' ρ ct.blks.length ct.eff w w' ∧ den β' ρ ct.eff.val = some v ∧ e = .returned v
theorem CtOk.mk' {P : Program} {f : Nat} {ct : Ct} (enters : ∀ args w, (callFunc f args).run P w = .ok (.enter f args) w)
  (call : ∀ (β : Blocks) (ρ : List U) (w : World) (vs : List Value), (∀ k l n, β k = some n → β l = some n → k = l) → (∀ k n, β k = some n → n < w.heap.size) → (∀ k, ct.blks.length ≤ k → β k = none) →
    (∀ k c, ct.blks[k]? = some c → ∃ n us, β k = some n ∧ denL β ρ c = some us ∧ CellsAt n us w) → denL β ρ ct.args = some vs → ct.m ≤ ρ.length → BindsAt ρ ct.m ct.eff.binds → NeedsAt ρ ct.eff.needs →
    Calls P f vs.toArray w fun e w' => ∃ β' v, Post β β' ρ ct.blks.length ct.eff w w' ∧ den β' ρ ct.eff.val = some v ∧ e = .returned v) : CtOk P f ct :=
  ⟨fun β ρ w vs a b c d e f g h => .inl ⟨enters _ _, call β ρ w vs a b c d e f g h⟩⟩

def AllOk (P : Program) : List (Nat × Ct) → Prop
  | [] => True
  | (f, ct) :: l => CtOk P f ct ∧ AllOk P l
theorem AllOk.append {P : Program} : ∀ {l m : List (Nat × Ct)}, AllOk P l → AllOk P m → AllOk P (l ++ m)
  | [], _, _, h => h
  | _ :: _, _, h, k => ⟨h.1, AllOk.append h.2 k⟩

theorem mu_len : ∀ {l : List (Nat × Nat)} {n k : Nat} {μ : List Nat}, mu l n k = some μ → μ.length = n
  | l, 0, k, μ, h => by unfold mu at h; simp at h; subst h; rfl
  | l, n + 1, k, μ, h => by
    unfold mu at h
    split at h
    · rename_i x y hx hy; simp at h; subst h; simp [mu_len hy]
    · simp at h
theorem nodup_get : ∀ {l : List Nat} {i j x : Nat}, nodupB l = true → l[i]? = some x → l[j]? = some x → i = j
  | [], i, j, x, _, h, _ => by simp at h
  | a :: l, 0, 0, x, _, _, _ => rfl
  | a :: l, 0, j + 1, x, hn, h, k => by
    simp [nodupB] at hn
    simp at h k; subst h
    exact absurd (List.mem_of_getElem? k) hn.1
  | a :: l, i + 1, 0, x, hn, h, k => by
    simp [nodupB] at hn
    simp at h k; subst k
    exact absurd (List.mem_of_getElem? h) hn.1
  | a :: l, i + 1, j + 1, x, hn, h, k => by
    simp [nodupB] at hn
    exact congrArg (· + 1) (nodup_get (l := l) (by simpa using hn.2) (by simpa using h) (by simpa using k))
theorem held_get {h : Heap} {s : List E} {μ : List Nat} : ∀ {cs : List (List AV)} {k i : Nat} {c : List AV}, heldB h s μ cs k = true → cs[i]? = some c → ∃ n d c', μ[k + i]? = some n ∧ h[n]? = some (some d) ∧ subL s μ c = some c' ∧ c' = d
  | [], k, i, c, _, hc => by simp at hc
  | c0 :: cs, k, 0, c, hb, hc => by
    simp at hc; subst hc
    simp only [heldB, Bool.and_eq_true] at hb
    obtain ⟨hb, _⟩ := hb
    split at hb
    · rename_i n hn
      split at hb
      · rename_i d c' hd hc'
        exact ⟨n, d, c', hn, hd, hc', sameL_eq _ _ hb⟩
      · simp at hb
    · simp at hb
  | c0 :: cs, k, i + 1, c, hb, hc => by
    simp only [heldB, Bool.and_eq_true] at hb
    have := held_get (i := i) hb.2 (by simpa using hc)
    rwa [show k + 1 + i = k + (i + 1) by omega] at this

section
variable {P : Program} {h : Heap} {nv nb f : Nat} {ct : Ct} {args : List AV} {e : Eff} {β : Blocks} {ρ : List U} {w : World}
/-- A call by its contract. -/
theorem useCt_ok (hct : CtOk P f ct) (he : useCt h nv nb ct args = some e) {vs : List Value} (hv : denL β ρ args = some vs) (hR : Rel β ρ h w) (hnb : β nb = none) (hb : BindsAt ρ nv e.binds) (hn : NeedsAt ρ e.needs) :
    Goes P f vs.toArray w fun en w' => ∃ β' v, Post β β' ρ nb e w w' ∧ den β' ρ e.val = some v ∧ en = .returned v := by
  unfold useCt at he
  split at he
  · simp at he
  · split at he
    · simp at he
    · rename_i m hm
      split at he
      · simp at he
      · rename_i μ hμ
        split at he
        · simp at he
        rename_i s0 hs0
        split at he
        · simp at he
        · rename_i args' hargs
          split at he
          · rename_i hcond
            obtain ⟨c1, c2, c3, c4, c5⟩ := hcond
            split at he
            · simp at he
            · rename_i bs s hs
              split at he
              · rename_i ns v up nw h1 h2 h3 h4
                simp at he; subst he
                dsimp only at hb hn ⊢
                have e1 := sameL_eq _ _ c1
                subst e1
                obtain ⟨t, ht⟩ := subBinds_pre hs
                have hlen := mu_len hμ
                let βc : Blocks := fun k => match μ[k]? with
                  | some n => β n
                  | none => none
                have C0 : Corr βc (rhoC ρ s) β ρ s μ := ⟨fun n x hx => rhoC_get hx, fun n k hk => by show (match μ[n]? with | some n => β n | none => none) = _; rw [hk]⟩
                have C1 : Corr βc (rhoC ρ s) β ρ s0 μ := ⟨fun n x hx => rhoC_get (by rw [ht, List.getElem?_append_left (by have := (List.getElem?_eq_some_iff.1 hx).1; omega)]; exact hx), C0.b⟩
                have hbc : ∀ k n, βc k = some n → ∃ x, μ[k]? = some x ∧ β x = some n := by
                  intro k n hk
                  have hk' : (match μ[k]? with | some n => β n | none => none) = some n := hk
                  split at hk'
                  · rename_i x hx; exact ⟨x, hx, hk'⟩
                  · simp at hk'
                have hout : ∀ k, ct.blks.length ≤ k → βc k = none := by
                  intro k hk
                  show (match μ[k]? with | some n => β n | none => none) = _
                  rw [List.getElem?_eq_none (by omega)]
                have hcall := hct.call βc (rhoC ρ s) w vs
                  (fun k l n hk hl => by
                    obtain ⟨x, hx, bx⟩ := hbc k n hk
                    obtain ⟨y, hy, by'⟩ := hbc l n hl
                    have := hR.inj x y n bx by'
                    subst this
                    exact nodup_get c4 hx hy)
                  (fun k n hk => by obtain ⟨x, _, bx⟩ := hbc k n hk; exact hR.bd x n bx)
                  hout
                  (fun k c hc => by
                    obtain ⟨n, d, c', g1, g2, g3, g4⟩ := held_get c3 hc
                    subst g4
                    rw [Nat.zero_add] at g1
                    obtain ⟨n', us, g5, g6, g7⟩ := hR.cells n c' g2
                    exact ⟨n', us, by rw [C0.b _ _ g1]; exact g5, by rw [subL_den C1 c g3]; exact g6, g7⟩)
                  (by rw [subL_den C1 ct.args hargs]; exact hv)
                  (by unfold rhoC; rw [List.length_map, ht, List.length_append]; omega)
                  (by have := subBinds_at (βc := βc) (β := β) (μ := μ) s hs ⟨[], by simp⟩ C0 hb; rwa [c2] at this)
                  (subNeeds_at C0 h1 hn)
                refine hcall.mono fun en w' ⟨βc', v', post, hv', he'⟩ => ?_
                have hall : ∀ (n k : Nat), μ[n]? = some k → k < nb := fun n k hk => by
                  have := List.all_eq_true.1 c5 k (List.mem_of_getElem? hk); simpa using this
                -- blocks behind the call
                have key : ∃ β', NewAs β β' ρ nb w w' nw ∧ Corr βc' (rhoC ρ s) β' ρ s (μ ++ [nb]) ∧ (∀ (n k : Nat), μ[n]? = some k → β' k = β k) := by
                  have hnew := post.new
                  cases hnw : ct.eff.new with
                  | none =>
                    rw [hnw] at hnew h4
                    simp at h4; subst h4
                    have hβ : βc' = βc := hnew
                    refine ⟨β, rfl, ⟨C0.e, fun n k hk => ?_⟩, fun _ _ _ => rfl⟩
                    rw [hβ]
                    rcases Nat.lt_or_ge n μ.length with hlt | hge
                    · rw [List.getElem?_append_left hlt] at hk; exact C0.b _ _ hk
                    · rw [List.getElem?_append_right hge] at hk
                      have : n - μ.length = 0 := by
                        rcases Nat.eq_zero_or_pos (n - μ.length) with h0 | h0
                        · exact h0
                        · rw [List.getElem?_eq_none (by simp; omega)] at hk; simp at hk
                      rw [this] at hk; simp at hk; subst hk
                      rw [hout n (by omega), hnb]
                  | some c0 =>
                    rw [hnw] at hnew h4
                    dsimp only at h4
                    cases hc : subL s (μ ++ [nb]) c0 with
                    | none => rw [hc] at h4; simp at h4
                    | some c =>
                      rw [hc] at h4
                      simp at h4; subst h4
                      obtain ⟨n, us, g1, g2, g3, g4, g5⟩ := hnew
                      have CC : Corr βc' (rhoC ρ s) (extB β nb n) ρ s (μ ++ [nb]) := by
                        refine ⟨C0.e, fun i k hk => ?_⟩
                        rw [g3]
                        rcases Nat.lt_or_ge i μ.length with hlt | hge
                        · rw [List.getElem?_append_left hlt] at hk
                          have := hall i k hk
                          unfold extB
                          rw [if_neg (by omega), if_neg (by omega)]
                          exact C0.b _ _ hk
                        · rw [List.getElem?_append_right hge] at hk
                          have : i - μ.length = 0 := by
                            rcases Nat.eq_zero_or_pos (i - μ.length) with h0 | h0
                            · exact h0
                            · rw [List.getElem?_eq_none (by simp; omega)] at hk; simp at hk
                          rw [this] at hk; simp at hk; subst hk
                          unfold extB
                          rw [if_pos (by omega), if_pos rfl]
                      refine ⟨extB β nb n, ⟨n, us, g1, g2, rfl, by rw [← subL_den CC c0 hc]; exact g4, g5⟩, CC, fun i k hk => ?_⟩
                      have := hall i k hk
                      unfold extB; rw [if_neg (by omega)]
                obtain ⟨β', k1, k2, k3⟩ := key
                refine ⟨β', v', ⟨post.os, post.tape, post.output, post.size, fun n hlt hno => ?_, fun k c hk => ?_, k1⟩, by rw [← sub_den k2 _ h2]; exact hv', he'⟩
                · refine post.old n hlt fun k0 c0 hk0 hβ => ?_
                  obtain ⟨k, c, g1, g2, g3⟩ := subUpd_out h3 k0 c0 hk0
                  obtain ⟨x, hx, bx⟩ := hbc k0 n hβ
                  have : k = x := by
                    have hlt := (List.getElem?_eq_some_iff.1 hx).1
                    rw [List.getElem?_append_left hlt, hx] at g2
                    simpa using g2.symm
                  subst this
                  exact hno _ _ g1 bx
                · obtain ⟨k0, c0, g1, g2, g3⟩ := subUpd_in h3 k c hk
                  obtain ⟨n, us, g4, g5, g6⟩ := post.upd k0 c0 g1
                  obtain ⟨x, hx, bx⟩ := hbc k0 n g4
                  have : k = x := by
                    have hlt := (List.getElem?_eq_some_iff.1 hx).1
                    rw [List.getElem?_append_left hlt, hx] at g2
                    simpa using g2.symm
                  subst this
                  exact ⟨n, us, bx, by rw [← subL_den k2 _ g3]; exact g5, g6⟩
              · simp at he
          · simp at he

theorem useCts_ok {cts : List (Nat × Ct)} (ha : AllOk P cts) (he : useCts h nv nb f args cts = some e) {vs : List Value} (hv : denL β ρ args = some vs) (hR : Rel β ρ h w) (hnb : β nb = none) (hb : BindsAt ρ nv e.binds) (hn : NeedsAt ρ e.needs) :
    Goes P f vs.toArray w fun en w' => ∃ β' v, Post β β' ρ nb e w w' ∧ den β' ρ e.val = some v ∧ en = .returned v := by
  induction cts with
  | nil => simp [useCts] at he
  | cons c l ih =>
    obtain ⟨g, ct⟩ := c
    unfold useCts at he
    split at he
    · rename_i hfg
      have hfg : f = g := by simpa using hfg
      subst hfg
      split at he
      · rename_i e' h1
        simp at he; subst he
        exact useCt_ok ha.1 h1 hv hR hnb hb hn
      · exact ih ha.2 he
    · exact ih ha.2 he

variable {tm : List AV} {a : Act} {o : Oper} {cts : List (Nat × Ct)}
theorem lenT_u {ts : Array TypeId} (h : lenT P ts = true) : ∃ t e, ts = #[t] ∧ P.underlying t = some (.slice e) := by
  unfold lenT at h
  split at h
  · rename_i t ht
    split at h
    · rename_i e he
      exact ⟨t, e, by apply Array.ext'; simpa using ht, he⟩
    · simp at h
  · simp at h
theorem order_min {x y : Nat} {c : Call} (hc : c.callee = .builtin .min) (t : TypeId) (hx : x < W64) (hy : y < W64) (rx : Dy.right x = true) (ry : Dy.right y = true) (ha : (c.args.map a.eval) = #[.float .f64 x, .float .f64 y]) :
    ((do let d ← resolve a.eval c t; invoke d.target d.args) : Sem Next).run P w = .ok (.value (.float .f64 (Dy.dmin x y))) w := by
  unfold resolve
  rw [hc]
  simp only [ha, Sem.run_bind, Sem.run_pure, Result.andThen_ok, invoke, builtin]
  have := run_min (P := P) x y c.argTypes t w hx hy rx ry
  simp [this]
theorem order_max {x y : Nat} {c : Call} (hc : c.callee = .builtin .max) (t : TypeId) (hx : x < W64) (hy : y < W64) (rx : Dy.right x = true) (ry : Dy.right y = true) (ha : (c.args.map a.eval) = #[.float .f64 x, .float .f64 y]) :
    ((do let d ← resolve a.eval c t; invoke d.target d.args) : Sem Next).run P w = .ok (.value (.float .f64 (Dy.dmax x y))) w := by
  unfold resolve
  rw [hc]
  simp only [ha, Sem.run_bind, Sem.run_pure, Result.andThen_ok, invoke, builtin]
  have := run_max (P := P) x y c.argTypes t w hx hy rx ry
  simp [this]

theorem ok_call {c : Call} (ho : o.op = .call c) (hcts : AllOk P cts) (he : evCall P cts tm h nv nb c = some e) (hT : Ops β ρ tm a c.operands.toList) (hR : Rel β ρ h w) (hnb : β nb = none) (hb : BindsAt ρ nv e.binds) (hn : NeedsAt ρ e.needs) : Does P o a w β ρ nb e := by
  have hargs : ∀ {vs : List AV}, opds tm c.args.toList = some vs → denL β ρ vs = some (c.args.toList.map a.eval) := fun hv => opds_den hT (fun x hx => by unfold Call.operands; simp; exact .inr (by simpa using hx)) hv
  unfold evCall at he
  split at he
  · rename_i hc
    split at he
    · rename_i hl
      obtain ⟨t, el, ht, hu⟩ := lenT_u hl
      split at he
      · rename_i b off len cap hv
        simp at he; subst he
        obtain ⟨x, y, h1, h2, h3⟩ := denL_cons.1 (hargs hv)
        rw [denL_nil.1 h2] at h3
        obtain ⟨n, _, rfl⟩ := den_slc h1
        have h4 : c.args.map a.eval = #[.slice (some ⟨n, off, none⟩) len cap] := by apply Array.ext'; simpa using h3
        refine Does.value (v := .int .i64 len) ?_ rfl rfl rfl
        unfold execOp; rw [ho]
        simp [resolve, hc, h4, invoke, builtin, Builtin.len_, goInt, ht, run_underlying hu w]
      · rename_i hv
        simp at he; subst he
        obtain ⟨x, y, h1, h2, h3⟩ := denL_cons.1 (hargs hv)
        rw [denL_nil.1 h2] at h3
        unfold den at h1; simp at h1; subst h1
        have h4 : c.args.map a.eval = #[.slice none 0 0] := by apply Array.ext'; simpa using h3
        refine Does.value (v := .int .i64 0) ?_ rfl rfl rfl
        unfold execOp; rw [ho]
        simp [resolve, hc, h4, invoke, builtin, Builtin.len_, goInt, ht, run_underlying hu w]
      · simp at he
    · simp at he
  · rename_i hc
    split at he
    · rename_i p q hv
      simp at he; subst he
      obtain ⟨x, y, h1, h2, h3⟩ := denL_cons.1 (hargs hv)
      obtain ⟨x', y', h1', h2', rfl⟩ := denL_cons.1 h2
      rw [denL_nil.1 h2'] at h3
      obtain ⟨m, em, wm, rfl⟩ := den_fl h1
      obtain ⟨n, en, wn, rfl⟩ := den_fl h1'
      have h4 : c.args.map a.eval = #[.float .f64 m, .float .f64 n] := by apply Array.ext'; simpa using h3
      have hr := Bool.and_eq_true_iff.1 (need1 hn (List.mem_singleton.2 rfl) (evs2 em en))
      refine Does.value (v := .float .f64 (Dy.dmin m n)) ?_ (fl_den (app_ev (evs2 em en) hb) (Dy.dmin_W wm wn)) rfl rfl
      unfold execOp; rw [ho]
      exact order_min hc o.type wm wn hr.1 hr.2 h4
    · simp at he
  · rename_i hc
    split at he
    · rename_i p q hv
      simp at he; subst he
      obtain ⟨x, y, h1, h2, h3⟩ := denL_cons.1 (hargs hv)
      obtain ⟨x', y', h1', h2', rfl⟩ := denL_cons.1 h2
      rw [denL_nil.1 h2'] at h3
      obtain ⟨m, em, wm, rfl⟩ := den_fl h1
      obtain ⟨n, en, wn, rfl⟩ := den_fl h1'
      have h4 : c.args.map a.eval = #[.float .f64 m, .float .f64 n] := by apply Array.ext'; simpa using h3
      have hr := Bool.and_eq_true_iff.1 (need1 hn (List.mem_singleton.2 rfl) (evs2 em en))
      refine Does.value (v := .float .f64 (Dy.dmax m n)) ?_ (fl_den (app_ev (evs2 em en) hb) (Dy.dmax_W wm wn)) rfl rfl
      unfold execOp; rw [ho]
      exact order_max hc o.type wm wn hr.1 hr.2 h4
    · simp at he
  · rename_i fo hc
    split at he
    · rename_i g ac k xs hf hv
      have hfd := opd_den hT (by unfold Call.operands; rw [hc]; simp) hf
      obtain ⟨x, y, h1, h2, h3⟩ := den_fn hfd
      have hall := denL_append (denL_append h1 (hargs hv)) h2
      have hgo := useCts_ok hcts he hall hR hnb hb hn
      intro K Q hK
      have hArr : x.toArray ++ c.args.map a.eval ++ y.toArray = (x ++ c.args.toList.map a.eval ++ y).toArray := by
        apply Array.ext'; simp
      rcases hgo with ⟨hent, hcall⟩ | ⟨v, hrun, β', v', hp, hv', hen⟩
      · unfold Oper.wp execOp
        rw [ho]
        simp only [resolve, hc, h3, Deferred.ofValue, Sem.run_bind, Sem.run_pure, Result.andThen_ok, invoke, hArr, hent, Oper.upon]
        refine hcall.mono fun en w' ⟨β', v, hp, hv', hen⟩ => ?_
        subst hen
        exact hK β' w' v hp hv'
      · simp at hen; subst hen
        unfold Oper.wp execOp
        rw [ho]
        simp only [resolve, hc, h3, Deferred.ofValue, Sem.run_bind, Sem.run_pure, Result.andThen_ok, invoke, hArr, hrun, Oper.upon]
        exact hK β' w v hp hv'
    · simp at he
  · simp at he

/-- EVERY OPERATION. -/
theorem evOp_ok (hcts : AllOk P cts) (he : evOp P cts tm h nv nb o = some e) (hT : Ops β ρ tm a o.op.operands.toList) (hR : Rel β ρ h w) (hnb : β nb = none) (hb : BindsAt ρ nv e.binds) (hn : NeedsAt ρ e.needs) : Does P o a w β ρ nb e := by
  unfold evOp at he
  split at he
  · rename_i x ho
    rw [ho] at hT
    split at he
    · rename_i v hv
      simp at he; subst he
      exact Does.value (v := a.eval x) (by unfold execOp; rw [ho]; rfl) (opd_den hT (by simp [Op.operands]) hv) rfl rfl
    · simp at he
  · rename_i x ho
    rw [ho] at hT
    split at he
    · rename_i v hv
      simp at he; subst he
      exact Does.value (v := a.eval x) (by unfold execOp; rw [ho]; rfl) (opd_den hT (by simp [Op.operands]) hv) rfl rfl
    · simp at he
  · rename_i c x y ho
    rw [ho] at hT
    split at he
    · rename_i b hc
      split at he
      · rename_i v hv
        simp at he; subst he
        obtain ⟨n, h1, h2⟩ := den_bo (opd_den hT (by simp [Op.operands]) hc)
        simp [E.ev] at h1; subst h1
        refine Does.value (v := a.eval (if b then x else y)) ?_ (opd_den hT (by cases b <;> simp [Op.operands]) hv) rfl rfl
        unfold execOp; rw [ho]
        simp only [h2, asBool, Sem.run_bind, Sem.run_pure, Result.andThen_ok]
        cases b <;> rfl
      · simp at he
    · simp at he
  · rename_i t ho
    split at he
    · rename_i z hz
      split at he
      · simp at he; exact ok_alloc ho hz he.symm hnb
      · simp at he
    · simp at he
  · rename_i t x ho
    rw [ho] at hT
    split at he
    · rename_i v hv
      split at he
      · simp at he; exact ok_box ho hv he.symm (by simpa [Op.operands] using hT) hnb
      · simp at he
    · simp at he
  · rename_i t ps ho
    rw [ho] at hT
    exact ok_build ho he (by simpa [Op.operands] using hT)
  · rename_i t len ps ho
    rw [ho] at hT
    exact ok_slice ho he (by simpa [Op.operands] using hT) hnb
  · rename_i t x ho
    rw [ho] at hT
    exact ok_load ho he (by simpa [Op.operands] using hT) hR
  · rename_i t x y ho
    rw [ho] at hT
    exact ok_store ho he (by simpa [Op.operands] using hT) hR
  · rename_i x ho
    rw [ho] at hT
    split at he
    · rename_i b off hv
      simp at he; subst he
      have hd := opd_den hT (by simp [Op.operands]) hv
      obtain ⟨n, _, h2⟩ := den_ptr hd
      refine Does.value (v := a.eval x) ?_ hd rfl rfl
      unfold execOp; rw [ho]; simp only [h2]; rfl
    · rename_i f x1 x2 hv
      simp at he; subst he
      have hd := opd_den hT (by simp [Op.operands]) hv
      obtain ⟨y1, y2, _, _, h2⟩ := den_fn hd
      refine Does.value (v := a.eval x) ?_ hd rfl rfl
      unfold execOp; rw [ho]; simp only [h2]; rfl
    · simp at he
  · rename_i op t x y yt ho
    rw [ho] at hT
    split at he
    · rename_i u v hu hv
      exact ok_bin ho hu hv he (by simpa [Op.operands] using hT) hb hn
    · simp at he
  · rename_i op t x ho
    rw [ho] at hT
    split at he
    · rename_i u hu
      exact ok_un ho hu he (by simpa [Op.operands] using hT) hb hn
    · simp at he
  · rename_i s d x ho
    rw [ho] at hT
    split at he
    · rename_i u hu
      exact ok_conv ho hu he (by simpa [Op.operands] using hT) hb hn
    · simp at he
  · rename_i f x y ho
    rw [ho] at hT
    split at he
    · rename_i u v hu hv
      simp at he; subst he
      have h1 := opds_den hT (fun z hz => by simp [Op.operands]; exact .inl (by simpa using hz)) hu
      have h2 := opds_den hT (fun z hz => by simp [Op.operands]; exact .inr (by simpa using hz)) hv
      refine Does.value (v := .func (.func f) (x.map a.eval) (y.map a.eval)) ?_ ?_ rfl rfl
      · unfold execOp; rw [ho]; rfl
      · unfold den; rw [h1, h2]
        simp only []
        congr 2
        · apply Array.ext'; simp
        · apply Array.ext'; simp
    · simp at he
  · rename_i t x f ho
    rw [ho] at hT
    split at he
    · rename_i b off fd hx hf
      split at he
      · rename_i n hn'
        split at he
        · rename_i hpos
          simp at he; exact ok_fieldAddr ho hx hf hn' hpos he.symm (by simpa [Op.operands] using hT)
        · simp at he
      · simp at he
    · simp at he
  · rename_i t x f ho
    rw [ho] at hT
    split at he
    · rename_i cs fd hx hf
      split at he
      · rename_i v hv
        simp at he; exact ok_field ho hx hf hv he.symm (by simpa [Op.operands] using hT)
      · simp at he
    · simp at he
  · rename_i t x i ho
    rw [ho] at hT
    exact ok_indexAddr ho he (by simpa [Op.operands] using hT)
  · rename_i t x i ho
    rw [ho] at hT
    exact ok_index ho he (by simpa [Op.operands] using hT)
  · rename_i x i ho
    rw [ho] at hT
    split at he
    · rename_i vs hx
      split at he
      · rename_i v hv
        simp at he; subst he
        obtain ⟨xs, h1, h2⟩ := den_tup (opd_den hT (by simp [Op.operands]) hx)
        obtain ⟨u, h3, h4⟩ := denL_get h1 hv
        refine Does.value (v := u) ?_ h3 rfl rfl
        unfold execOp; rw [ho]
        simp [Instr.extract, h2, h4]
      · simp at he
    · simp at he
  · rename_i c ho
    rw [ho] at hT
    exact ok_call ho hcts he (by simpa [Op.operands] using hT) hR hnb hb hn
  · simp at he
end
end Go.Proofs.Ythfgdhobldejmaa
