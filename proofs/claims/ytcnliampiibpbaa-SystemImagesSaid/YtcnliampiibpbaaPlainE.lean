/- Plain laws over the printed functions: what each comes to. No condition but the ones written. -/
import Derived.Test.YtcnliampiibpbaaPlainD
import Derived.Test.YtcnliampiibpbaaPAllx9
namespace Go.Proofs.Ytcnliampiibpbaa.Plain
open Go Go.RowKit Go.Proofs.Ytcnliampiibpbaa.PAll Go.Proofs.YtcnliampiibpbaaW.PrintWords Go.Proofs.YtcnliampiibpbaaW.PrintLast Go.Proofs.YtcnliampiibpbaaW.PrintMore
set_option linter.unusedVariables false
/-! ### Iso: what an isomorphism is; the system's search -/
def gI (img : List Int) (u : Nat) : Int := img.getD u (-1)
theorem gI_set (img : List Int) (i j : Nat) (t : Int) : gI (img.set i t) j = if i = j ∧ j < img.length then t else gI img j := getD_set_ (-1) img i j t
theorem rd_gI (img : List Int) (u : Nat) (h : u < img.length) : rd img (u : Int) = gI img u := by
  rw [rd_get img u h]; unfold gI; rw [List.getD_eq_getElem?_getD, List.getElem?_eq_getElem h]; rfl
def uns (img : List Int) : Nat := img.countP (fun x => decide (x < 0))
theorem uns_set (img : List Int) (i : Nat) (t : Int) (h : i < img.length) (hf : gI img i < 0) (ht : 0 ≤ t) : uns (img.set i t) + 1 = uns img := by
  induction img generalizing i with
  | nil => simp at h
  | cons x o ih =>
    cases i with
    | zero =>
      have hx : x < 0 := hf
      unfold uns
      rw [List.set_cons_zero, List.countP_cons, List.countP_cons, if_pos (decide_eq_true hx), if_neg (by simp; omega)]
    | succ i =>
      have := ih i (by simpa using h) (by unfold gI at hf ⊢; simpa using hf)
      unfold uns at this ⊢
      rw [List.set_cons_succ, List.countP_cons, List.countP_cons]
      omega
theorem gI_repl (n u : Nat) : gI (List.replicate n (-1)) u = -1 := by
  unfold gI
  rw [List.getD_eq_getElem?_getD, List.getElem?_replicate]
  split <;> rfl
theorem uns_repl (n : Nat) : uns (List.replicate n (-1)) = n := by
  unfold uns
  rw [List.countP_replicate, if_pos (by decide)]
theorem uns_pos (img : List Int) (i : Nat) (h : i < img.length) (hf : gI img i < 0) : 0 < uns img := by
  unfold uns
  rw [List.countP_pos_iff]
  unfold gI at hf
  rw [List.getD_eq_getElem?_getD, List.getElem?_eq_getElem h] at hf
  exact ⟨img[i], List.getElem_mem h, decide_eq_true hf⟩
theorem nxL_mem (s e : Int) : ∀ L : List S44, nxL s e L = -1 ∨ ∃ y ∈ L, y.f0 = s ∧ y.f1 = e ∧ nxL s e L = y.f2
  | [] => .inl rfl
  | x :: r => by
    rw [nxL]
    by_cases c : x.f0 = s ∧ x.f1 = e
    · rw [if_pos c]; exact .inr ⟨x, List.mem_cons_self, c.1, c.2, rfl⟩
    · rw [if_neg c]
      rcases nxL_mem s e r with h | ⟨y, h1, h2⟩
      · exact .inl h
      · exact .inr ⟨y, List.mem_cons_of_mem _ h1, h2⟩
theorem snext_k (s e a : Int) (l : List ByteArray) (l2 : List S44) (hl : l2.length ≤ 1000000) (n : Nat) : ∀ (i k : Nat), l2.length - i = n → i ≤ l2.length → n < k → system_next.l0 k s e l2 (l2.length : Int) (i : Int) = some (nxL s e (l2.drop i)) := by
  induction n with
  | zero =>
    intro i k hn hi hk
    obtain ⟨k, rfl⟩ := fuel hk
    rw [system_next.l0, if_neg (by omega), drop_end _ i (by omega), nxL]
  | succ n ih =>
    intro i k hn hi hk
    obtain ⟨k, rfl⟩ := fuel hk
    have h : i < l2.length := by omega
    rw [system_next.l0, if_pos (by omega), if_pos (by omega), if_pos (by omega), rdT_get l2 i h, wrap_succ i (by omega), ih (i + 1) k (by omega) (by omega) (by omega), drop_cons l2 i h, nxL]
    by_cases c0 : l2[i].f0 = s
    · rw [if_pos c0]
      by_cases c1 : l2[i].f1 = e
      · rw [if_pos c1, if_pos ⟨c0, c1⟩]
      · rw [if_neg c1, if_neg (fun q => c1 q.2)]
    · rw [if_neg c0, if_neg (fun q => c0 q.1)]
theorem snext_f (s e a : Int) (l : List ByteArray) (l2 : List S44) (hl : l2.length ≤ 1000000) (k : Nat) (hk : l2.length < k) : system_next.f k a l l2 s e = some (nxL s e l2) := by
  unfold system_next.f
  simpa using snext_k s e a l l2 hl _ 0 k rfl (by omega) (by omega)
/-- A map of the states that keeps the begin and the arcs. -/
structure Ho (n : Nat) (la2 lb2 : List S44) (ev : S44 → Int) (h : Nat → Nat) : Prop where
  z : h 0 = 0
  lt : ∀ u, u < n → h u < n
  arc : ∀ x ∈ la2, nxL ((h x.f0.toNat : Nat) : Int) (ev x) lb2 = ((h x.f2.toNat : Nat) : Int)
def Inj (n : Nat) (h : Nat → Nat) : Prop := ∀ u v, u < n → v < n → h u = h v → u = v
def Agr (n : Nat) (img : List Int) (h : Nat → Nat) : Prop := ∀ u, u < n → 0 ≤ gI img u → gI img u = ((h u : Nat) : Int)
def Ext (n : Nat) (img img' : List Int) : Prop := ∀ u, u < n → 0 ≤ gI img u → gI img' u = gI img u
def Sat (lb2 : List S44) (ev : S44 → Int) (img : List Int) (x : S44) : Prop := nxL (gI img x.f0.toNat) (ev x) lb2 = gI img x.f2.toNat ∧ 0 ≤ gI img x.f2.toNat ∧ 0 ≤ gI img x.f0.toNat
/-- What is known of the two systems' arcs. -/
structure AB2 (n : Nat) (la2 lb2 : List S44) : Prop where
  a : ∀ x ∈ la2, 0 ≤ x.f0 ∧ x.f0 < (n : Int) ∧ 0 ≤ x.f2 ∧ x.f2 < (n : Int)
  b : ∀ y ∈ lb2, 0 ≤ y.f2 ∧ y.f2 < (n : Int)
theorem Sat.ext {n : Nat} {la2 lb2 : List S44} {ev : S44 → Int} (hE : AB2 n la2 lb2) {img img' : List Int} (he : Ext n img img') {x : S44} (hx : x ∈ la2) (h : Sat lb2 ev img x) : Sat lb2 ev img' x := by
  obtain ⟨h1, h2, h3⟩ := h
  have ha := hE.a x hx
  have e1 := he x.f0.toNat (by omega) h3
  have e2 := he x.f2.toNat (by omega) h2
  exact ⟨by rw [e1, e2]; exact h1, by rw [e2]; exact h2, by rw [e1]; exact h3⟩
theorem Ext.refl (n : Nat) (img : List Int) : Ext n img img := fun _ _ _ => rfl
theorem Ext.trans {n : Nat} {a b c : List Int} (h : Ext n a b) (k : Ext n b c) : Ext n a c := fun u hu h0 => by
  have e := h u hu h0
  rw [k u hu (by rw [e]; exact h0), e]
structure IJ (n : Nat) (img : List Int) (used : List Bool) : Prop where
  li : img.length = n
  lu : used.length = n
  rng : ∀ u, u < n → -1 ≤ gI img u ∧ gI img u < (n : Int)
  us : ∀ t, t < n → (gB used t = true ↔ ∃ u, u < n ∧ gI img u = (t : Int))
  inj : ∀ u v, u < n → v < n → 0 ≤ gI img u → gI img u = gI img v → u = v
structure IRV (n : Nat) (la2 lb2 : List S44) (ev : S44 → Int) (img : List Int) (s : Nat) (t : Int) (r : Bool) (img' : List Int) (used' : List Bool) : Prop where
  un : uns img' ≤ uns img
  yes : r = true → IJ n img' used' ∧ Ext n img img' ∧ (∀ x ∈ la2, gI img x.f0.toNat < 0 → 0 ≤ gI img' x.f0.toNat → Sat lb2 ev img' x) ∧ gI img' s = t
  all : ∀ h, Ho n la2 lb2 ev h → Inj n h → Agr n img h → ((h s : Nat) : Int) = t → r = true ∧ Agr n img' h
def VSpec (n : Nat) (la2 lb2 : List S44) (ev : S44 → Int) (V : List Int → List Bool → Int → Int → Option (Bool × List Int × List Bool)) (m : Nat) : Prop :=
  ∀ img used (s : Nat) (t : Int), IJ n img used → uns img ≤ m → s < n → 0 ≤ t → t < (n : Int) → ∃ r img' used', V img used (s : Int) t = some (r, img', used') ∧ IRV n la2 lb2 ev img s t r img' used'
theorem isoL_spec (n : Nat) (la2 lb2 : List S44) (ev : S44 → Int) (hE : AB2 n la2 lb2) (V : List Int → List Bool → Int → Int → Option (Bool × List Int × List Bool)) (nx : Int → Int → Option Int) (tob : List Int) (m : Nat) (hV : VSpec n la2 lb2 ev V m) (hnx : ∀ t e, nx t e = some (nxL t e lb2))
    (hto : ∀ x ∈ la2, 0 ≤ x.f1 ∧ x.f1 < (tob.length : Int) ∧ rd tob x.f1 = ev x) (s : Nat) (t : Int) (hs : s < n) (ht : 0 ≤ t) : ∀ (xs : List S44), (∀ x ∈ xs, x ∈ la2) → ∀ img used, IJ n img used → uns img ≤ m → gI img s = t →
    ∃ r img' used', isoL V nx tob (s : Int) t xs img used = some (r, img', used') ∧ uns img' ≤ uns img ∧
      (r = true → IJ n img' used' ∧ Ext n img img' ∧ (∀ x ∈ la2, gI img x.f0.toNat < 0 → 0 ≤ gI img' x.f0.toNat → Sat lb2 ev img' x) ∧ ∀ x ∈ xs, x.f0 = (s : Int) → Sat lb2 ev img' x) ∧
      (∀ h, Ho n la2 lb2 ev h → Inj n h → Agr n img h → r = true ∧ Agr n img' h)
  | [], _, img, used, hI, _, _ => ⟨true, img, used, rfl, Nat.le_refl _, fun _ => ⟨hI, Ext.refl _ _, fun x _ h1 h2 => absurd h2 (by omega), fun x hx => absurd hx (by simp)⟩, fun h _ _ ha => ⟨rfl, ha⟩⟩
  | x :: xs, hxs, img, used, hI, hm, hst => by
    have hx := hxs x List.mem_cons_self
    have ha := hE.a x hx
    obtain ⟨t1, t2, t3⟩ := hto x hx
    by_cases c : x.f0 = (s : Int)
    · have hq : ∀ h, Ho n la2 lb2 ev h → Agr n img h → nxL t (ev x) lb2 = ((h x.f2.toNat : Nat) : Int) := fun h h1 h2 => by
        have e := h1.arc x hx
        have e2 := h2 s hs (by rw [hst]; exact ht)
        have e3 : x.f0.toNat = s := by omega
        rw [e3, ← e2, hst] at e
        exact e
      rw [isoL, if_pos c, if_pos ⟨t1, t2⟩, hnx, Option.bind_some, t3]
      by_cases d : nxL t (ev x) lb2 < 0
      · rw [if_pos d]
        exact ⟨false, img, used, rfl, Nat.le_refl _, fun q => by simp at q, fun h h1 _ h3 => absurd (hq h h1 h3) (by omega)⟩
      · rw [if_neg d]
        have hqn : nxL t (ev x) lb2 < (n : Int) := by
          rcases nxL_mem t (ev x) lb2 with g | ⟨y, g1, _, _, g2⟩
          · omega
          · have := hE.b y g1; omega
        obtain ⟨f2, hf2⟩ := Int.eq_ofNat_of_zero_le ha.2.2.1
        have hf2' : x.f2.toNat = f2 := by omega
        obtain ⟨r1, i1, u1, e1, v1⟩ := hV img used f2 (nxL t (ev x) lb2) hI hm (by omega) (by omega) hqn
        rw [hf2, e1, Option.bind_some]
        cases r1 with
        | false =>
          rw [if_neg (by simp)]
          refine ⟨false, i1, u1, rfl, v1.un, fun q => by simp at q, fun h h1 h2 h3 => ?_⟩
          have := (v1.all h h1 h2 h3 (by rw [hq h h1 h3, hf2'])).1
          simp at this
        | true =>
          rw [if_pos rfl]
          obtain ⟨y1, y2, y3, y4⟩ := v1.yes rfl
          have hs1 : gI i1 s = t := by rw [y2 s hs (by rw [hst]; exact ht), hst]
          obtain ⟨r2, i2, u2, e2, w1, w2, w3⟩ := isoL_spec n la2 lb2 ev hE V nx tob m hV hnx hto s t hs ht xs (fun z hz => hxs z (List.mem_cons_of_mem _ hz)) i1 u1 y1 (Nat.le_trans v1.un hm) hs1
          refine ⟨r2, i2, u2, e2, Nat.le_trans w1 v1.un, fun q => ?_, fun h h1 h2 h3 => ?_⟩
          · obtain ⟨z1, z2, z3, z4⟩ := w2 q
            have sx : Sat lb2 ev i1 x := by
              have e3 : x.f0.toNat = s := by omega
              refine ⟨?_, ?_, ?_⟩
              · rw [e3, hs1, hf2', y4]
              · rw [hf2', y4]; omega
              · rw [e3, hs1]; exact ht
            refine ⟨z1, y2.trans z2, fun z hz g1 g2 => ?_, fun z hz g => ?_⟩
            · by_cases b : gI i1 z.f0.toNat < 0
              · exact z3 z hz b g2
              · exact (y3 z hz g1 (by omega)).ext hE z2 hz
            · rcases List.mem_cons.1 hz with rfl | hz
              · exact sx.ext hE z2 hx
              · exact z4 z hz g
          · exact w3 h h1 h2 (v1.all h h1 h2 h3 (by rw [hq h h1 h3, hf2'])).2
    · obtain ⟨r, i, u, e, w1, w2, w3⟩ := isoL_spec n la2 lb2 ev hE V nx tob m hV hnx hto s t hs ht xs (fun z hz => hxs z (List.mem_cons_of_mem _ hz)) img used hI hm hst
      refine ⟨r, i, u, by rw [isoL, if_neg c, e], w1, fun q => ?_, w3⟩
      obtain ⟨z1, z2, z3, z4⟩ := w2 q
      exact ⟨z1, z2, z3, fun z hz g => (List.mem_cons.1 hz).elim (fun q => absurd (q ▸ g) c) (fun q => z4 z q g)⟩
theorem isoV_spec (b0 : Int) (lb1 : List ByteArray) (n : Nat) (la2 lb2 : List S44) (ev : S44 → Int) (hE : AB2 n la2 lb2) (hlb : lb2.length ≤ 1000000) (tob : List Int) (hto : ∀ x ∈ la2, 0 ≤ x.f1 ∧ x.f1 < (tob.length : Int) ∧ rd tob x.f1 = ev x) :
    ∀ (m k : Nat), lb2.length + m + 2 ≤ k → VSpec n la2 lb2 ev (isoV b0 lb1 la2 lb2 tob k) m := by
  intro m
  induction m with
  | zero =>
    intro k hk img used s t hI hm hs h0 h1
    obtain ⟨k, rfl⟩ := fuel (show 0 < k by omega)
    have hl := hI.li
    have c : 0 ≤ gI img s := by
      rcases Int.lt_or_le (gI img s) 0 with c | c
      · have := uns_pos img s (by omega) c; omega
      · exact c
    refine ⟨decide (gI img s = t), img, used, by rw [isoV, if_pos ⟨by omega, by omega⟩, rd_gI img s (by omega), if_pos c], Nat.le_refl _, fun q => ⟨hI, Ext.refl _ _, fun x _ g1 g2 => absurd g2 (by omega), of_decide_eq_true q⟩, fun h g1 g2 g3 g4 => ⟨decide_eq_true (by rw [g3 s hs c, g4]), g3⟩⟩
  | succ m ih =>
    intro k hk img used s t hI hm hs h0 h1
    obtain ⟨k, rfl⟩ := fuel (show 0 < k by omega)
    have hl := hI.li
    have hlu := hI.lu
    rw [isoV, if_pos ⟨by omega, by omega⟩, rd_gI img s (by omega)]
    by_cases c : 0 ≤ gI img s
    · rw [if_pos c]
      exact ⟨decide (gI img s = t), img, used, rfl, Nat.le_refl _, fun q => ⟨hI, Ext.refl _ _, fun x _ g1 g2 => absurd g2 (by omega), of_decide_eq_true q⟩, fun h g1 g2 g3 g4 => ⟨decide_eq_true (by rw [g3 s hs c, g4]), g3⟩⟩
    · rw [if_neg c, if_pos ⟨h0, by omega⟩]
      obtain ⟨tn, rfl⟩ := Int.eq_ofNat_of_zero_le h0
      have htn : tn < n := by omega
      rw [rdB]
      by_cases d : gB used tn = true
      · rw [if_pos d]
        refine ⟨false, img, used, rfl, Nat.le_refl _, fun q => by simp at q, fun h g1 g2 g3 g4 => ?_⟩
        obtain ⟨u, hu, e⟩ := (hI.us tn htn).mp d
        have e1 := g3 u hu (by omega)
        have : u = s := g2 u s hu hs (by omega)
        subst this
        exact absurd (by omega : 0 ≤ gI img u) c
      · rw [if_neg d]
        have hneg : gI img s < 0 := by omega
        have hu1 := uns_set img s (tn : Int) (by omega) hneg h0
        have g_s : gI (img.set s (tn : Int)) s = (tn : Int) := by rw [gI_set, if_pos ⟨rfl, by omega⟩]
        have g_o : ∀ u, u ≠ s → gI (img.set s (tn : Int)) u = gI img u := fun u hu => by rw [gI_set, if_neg (fun q => hu q.1.symm)]
        have hno : ∀ u, u < n → gI img u ≠ (tn : Int) := fun u hu e => d ((hI.us tn htn).mpr ⟨u, hu, e⟩)
        have hJ : IJ n (img.set s (tn : Int)) (used.set tn true) := by
          refine ⟨by rw [List.length_set, hl], by rw [List.length_set, hlu], fun u hu => ?_, fun t' ht' => ?_, fun u v hu hv g1 g2 => ?_⟩
          · by_cases e : u = s
            · subst e; rw [g_s]; omega
            · rw [g_o u e]; exact hI.rng u hu
          · rw [gB_set]
            by_cases e : tn = t'
            · subst e
              rw [if_pos ⟨rfl, by omega⟩]
              exact ⟨fun _ => ⟨s, hs, g_s⟩, fun _ => rfl⟩
            · rw [if_neg (fun q => e q.1), hI.us t' ht']
              constructor
              · rintro ⟨u, hu, q⟩
                have : u ≠ s := fun z => by subst z; omega
                exact ⟨u, hu, by rw [g_o u this]; exact q⟩
              · rintro ⟨u, hu, q⟩
                have : u ≠ s := fun z => by subst z; rw [g_s] at q; omega
                exact ⟨u, hu, by rw [g_o u this] at q; exact q⟩
          · by_cases e1 : u = s
            · by_cases e2 : v = s
              · omega
              · subst e1; rw [g_s, g_o v e2] at g2; exact absurd g2.symm (hno v hv)
            · by_cases e2 : v = s
              · subst e2; rw [g_s, g_o u e1] at g2; exact absurd g2 (hno u hu)
              · rw [g_o u e1] at g1 g2; rw [g_o v e2] at g2; exact hI.inj u v hu hv g1 g2
        obtain ⟨r, i, us', e, w1, w2, w3⟩ := isoL_spec n la2 lb2 ev hE (isoV b0 lb1 la2 lb2 tob k) (fun t e => system_next.f k b0 lb1 lb2 t e) tob m (ih k (by omega)) (fun t e => snext_f t e b0 lb1 lb2 hlb k (by omega)) hto s (tn : Int) hs h0 la2 (fun _ h => h) (img.set s (tn : Int)) (used.set tn true) hJ (by omega) g_s
        rw [Int.toNat_natCast, Int.toNat_natCast]
        refine ⟨r, i, us', e, by omega, fun q => ?_, fun h g1 g2 g3 g4 => ?_⟩
        · obtain ⟨z1, z2, z3, z4⟩ := w2 q
          refine ⟨z1, fun u hu g => ?_, fun x hx p1 p2 => ?_, ?_⟩
          · have : u ≠ s := fun z => by subst z; omega
            rw [z2 u hu (by rw [g_o u this]; exact g), g_o u this]
          · by_cases b : x.f0.toNat = s
            · exact z4 x hx (by have := hE.a x hx; omega)
            · exact z3 x hx (by rw [g_o _ b]; exact p1) p2
          · rw [z2 s hs (by rw [g_s]; exact h0), g_s]
        · refine w3 h g1 g2 (fun u hu g => ?_)
          by_cases b : u = s
          · subst b; rw [g_s, g4]
          · rw [g_o u b] at g ⊢; exact g3 u hu g

/-! ### Iso of the system: what it comes tob -/
def imgOf (n : Nat) (h : Nat → Nat) : List Int := (List.range n).map (fun u => ((h u : Nat) : Int))
theorem imgOf_get (n : Nat) (h : Nat → Nat) (u : Nat) (hu : u < n) : gI (imgOf n h) u = ((h u : Nat) : Int) := by
  unfold gI imgOf
  rw [List.getD_eq_getElem?_getD, List.getElem?_eq_getElem (by simp; exact hu), List.getElem_map, List.getElem_range]; rfl
theorem img_ext {a b : List Int} (hl : a.length = b.length) (h : ∀ u, u < a.length → gI a u = gI b u) : a = b := by
  apply List.ext_getElem hl
  intro u h1 h2
  have := h u h1
  unfold gI at this
  rw [List.getD_eq_getElem?_getD, List.getD_eq_getElem?_getD, List.getElem?_eq_getElem h1, List.getElem?_eq_getElem h2] at this
  exact this
theorem img_is {n : Nat} {img : List Int} (hl : img.length = n) (h : ∀ u, u < n → 0 ≤ gI img u) : img = imgOf n (fun u => (gI img u).toNat) := by
  apply img_ext (by rw [hl]; simp [imgOf])
  intro u hu
  rw [hl] at hu
  rw [imgOf_get n _ u hu]
  have := h u hu
  omega
/-- All states of the first system can be reached. -/
def AllR (n : Nat) (la2 : List S44) : Prop := ∀ P : Nat → Prop, P 0 → (∀ x ∈ la2, P x.f0.toNat → P x.f2.toNat) → ∀ v, v < n → P v
theorem allR_of {a : Int} {l : List ByteArray} {l2 : List S44} (hv : VaP a l l2) (h : ∀ v, v < a.toNat → RC (grG a l2) [0] v) : AllR a.toNat l2 := by
  intro P h0 hs v hlt
  have hr := h v hlt
  induction hr with
  | base h1 _ =>
    have : (_ : Int) = 0 := List.mem_singleton.1 h1
    have : _ = (0 : Nat) := Int.ofNat_eq_zero.mp this
    rw [this]; exact h0
  | @step u v hu h2 h3 ih =>
    rw [grG_mem hv] at h2
    obtain ⟨x, hx, e1, e2⟩ := h2
    have hul : u < a.toNat := by have := hu.lt; rw [grG_len] at this; exact this
    have := hs x hx (by rw [e1]; exact ih hul)
    rw [e2] at this
    simpa using this
theorem Ho.uniq {n : Nat} {la2 lb2 : List S44} {ev : S44 → Int} {h k : Nat → Nat} (hr : AllR n la2) (a : Ho n la2 lb2 ev h) (b : Ho n la2 lb2 ev k) : ∀ v, v < n → h v = k v :=
  hr (fun v => h v = k v) (by rw [a.z, b.z]) (fun x hx e => by
    have h1 := a.arc x hx
    have h2 := b.arc x hx
    rw [e, h2] at h1
    omega)
theorem imgOf_congr {n : Nat} {h k : Nat → Nat} (e : ∀ v, v < n → h v = k v) : imgOf n h = imgOf n k := by
  unfold imgOf
  exact List.map_congr_left (fun u hu => by rw [e u (List.mem_range.1 hu)])
/-- What an answer of Iso means. -/
def IsoA (n : Nat) (la2 lb2 : List S44) (ev : S44 → Int) (R : List Int × Bool) : Prop :=
  (R.2 = true ∧ ∃ h, Ho n la2 lb2 ev h ∧ Inj n h ∧ R.1 = imgOf n h) ∨ (R = ([], false) ∧ ∀ h, Ho n la2 lb2 ev h → Inj n h → False)
theorem IsoA.uniq {n : Nat} {la2 lb2 : List S44} {ev : S44 → Int} {R R' : List Int × Bool} (hr : AllR n la2) (a : IsoA n la2 lb2 ev R) (b : IsoA n la2 lb2 ev R') : R = R' := by
  rcases a with ⟨a1, h, a2, a3, a4⟩ | ⟨a1, a2⟩
  · rcases b with ⟨b1, k, b2, b3, b4⟩ | ⟨b1, b2⟩
    · exact Prod.ext (by rw [a4, b4]; exact imgOf_congr (a2.uniq hr b2)) (by rw [a1, b1])
    · exact (b2 h a2 a3).elim
  · rcases b with ⟨b1, k, b2, b3, b4⟩ | ⟨b1, b2⟩
    · exact (a2 k b2 b3).elim
    · rw [a1, b1]
/-- A map that is closed under the arcs and whose begin is set is one of all states. -/
theorem closed_all {n : Nat} {la2 lb2 : List S44} {ev : S44 → Int} (hE : AB2 n la2 lb2) (hr : AllR n la2) {img : List Int} (hn : 0 < n) (hrg : ∀ u, u < n → gI img u < (n : Int)) (h0 : gI img 0 = 0) (hc : ∀ x ∈ la2, 0 ≤ gI img x.f0.toNat → Sat lb2 ev img x) :
    (∀ u, u < n → 0 ≤ gI img u) ∧ Ho n la2 lb2 ev (fun u => (gI img u).toNat) := by
  have hall : ∀ u, u < n → 0 ≤ gI img u := hr (fun u => 0 ≤ gI img u) (by omega) (fun x hx h => (hc x hx h).2.1)
  refine ⟨hall, ⟨by show (gI img 0).toNat = 0; omega, fun u hu => by have := hrg u hu; have := hall u hu; show (gI img u).toNat < n; omega, fun x hx => ?_⟩⟩
  obtain ⟨s1, s2, s3⟩ := hc x hx (hall _ (by have := hE.a x hx; omega))
  show nxL (((gI img x.f0.toNat).toNat : Nat) : Int) (ev x) lb2 = (((gI img x.f2.toNat).toNat : Nat) : Int)
  rw [Int.toNat_of_nonneg s3, Int.toNat_of_nonneg s2]
  exact s1
theorem isoT_spec (a0 b0 : Int) (lb1 : List ByteArray) (n : Nat) (la2 lb2 : List S44) (ev : S44 → Int) (ha : a0 = (n : Int)) (hb : b0 = (n : Int)) (hn : 0 < n) (hn2 : n ≤ 1000000) (hE : AB2 n la2 lb2) (hr : AllR n la2) (hlb : lb2.length ≤ 1000000) (tob : List Int) (hto : ∀ x ∈ la2, 0 ≤ x.f1 ∧ x.f1 < (tob.length : Int) ∧ rd tob x.f1 = ev x) :
    ∃ R, Ev (fun k => isoT k a0 la2 b0 lb1 lb2 tob) R ∧ IsoA n la2 lb2 ev R := by
  have hI : IJ n (List.replicate n (-1)) (List.replicate n false) := by
    refine ⟨List.length_replicate, List.length_replicate, fun u hu => ?_, fun t ht => ?_, fun u v hu hv g1 g2 => ?_⟩
    · rw [gI_repl]; omega
    · rw [gB_repl]
      constructor
      · intro q; simp at q
      · rintro ⟨u, hu, q⟩; rw [gI_repl] at q; omega
    · rw [gI_repl] at g1; omega
  have key : ∀ k, lb2.length + n + 2 ≤ k → ∃ r img' used', isoV b0 lb1 la2 lb2 tob k (List.replicate n (-1)) (List.replicate n false) 0 0 = some (r, img', used') ∧ IRV n la2 lb2 ev (List.replicate n (-1)) 0 0 r img' used' := fun k hk =>
    isoV_spec b0 lb1 n la2 lb2 ev hE hlb tob hto n k hk (List.replicate n (-1)) (List.replicate n false) 0 0 hI (by rw [uns_repl]; exact Nat.le_refl _) hn (Int.le_refl _) (by omega)
  obtain ⟨r, img, used, e, v⟩ := key (lb2.length + n + 2) (Nat.le_refl _)
  have hev : Ev (fun k => isoV b0 lb1 la2 lb2 tob k (List.replicate n (-1)) (List.replicate n false) 0 0) (r, img, used) := Ev.of (fun k => isoV_mono b0 lb1 la2 lb2 tob k _ _ _ _) e
  refine ⟨if r = true then (img, true) else ([], false), ?_, ?_⟩
  · unfold isoT
    have e1 : a0.toNat = n := by omega
    have e2 : b0.toNat = n := by omega
    have c : (0 ≤ a0 ∧ n ≤ 17592186044416) ∧ (0 ≤ b0 ∧ n ≤ 17592186044416) := by omega
    simp only [e1, e2, if_pos c]
    refine Ev.bind hev ?_
    cases r with
    | true => exact Ev.now _
    | false => exact Ev.now _
  · cases r with
    | true =>
      obtain ⟨z1, z2, z3, z4⟩ := v.yes rfl
      have hc : ∀ x ∈ la2, 0 ≤ gI img x.f0.toNat → Sat lb2 ev img x := fun x hx g => z3 x hx (by rw [gI_repl]; omega) g
      obtain ⟨hall, hho⟩ := closed_all hE hr hn (fun u hu => (z1.rng u hu).2) z4 hc
      refine .inl ⟨rfl, _, hho, fun u w hu hw g => z1.inj u w hu hw (hall u hu) ?_, img_is z1.li hall⟩
      have := hall u hu
      have := hall w hw
      have g' : (gI img u).toNat = (gI img w).toNat := g
      omega
    | false =>
      refine .inr ⟨rfl, fun h h1 h2 => ?_⟩
      have := (v.all h h1 h2 (fun u hu g => by rw [gI_repl] at g; omega) (by rw [h1.z]; rfl)).1
      simp at this
/-! ### events: the events of the one by those of the other -/
theorem ckNames_none (l : List ByteArray) : ∀ (n i : Nat), ckNames l n i = none → ∀ j (h : j < l.length), i ≤ j → j < i + n → nmB l[j] = true ∧ dl l[j] ∉ (vls l).take j
  | 0, i, _, j, _, h1, h2 => absurd h2 (by omega)
  | n + 1, i, h, j, hj, h1, h2 => by
    rw [ckNames] at h
    split at h
    · rename_i c
      split at h
      · simp at h
      · rename_i d
        by_cases e : j = i
        · subst e
          rw [getD_get l j hj] at c d
          exact ⟨c, d⟩
        · exact ckNames_none l n (i + 1) h j hj (by omega) (by omega)
    · simp at h
theorem vls_getElem (l : List ByteArray) (i : Nat) (h : i < (vls l).length) : (vls l)[i] = dl (l[i]'(by rw [vls_len] at h; exact h)) := vls_get l i (by rw [vls_len] at h; exact h)
theorem nodup_of {a : Int} {l : List ByteArray} {l2 : List S44} (h : VaP a l l2) : (vls l).Nodup := by
  unfold List.Nodup
  rw [List.pairwise_iff_getElem]
  intro i j hi hj hij e
  have hj' : j < l.length := by rw [vls_len] at hj; exact hj
  have := (ckNames_none l _ _ h.nm j hj' (by omega) (by omega)).2
  rw [← vls_getElem l j hj, ← e] at this
  exact this (List.mem_take_iff_getElem.mpr ⟨i, by omega, rfl⟩)
def lastD (s : List UInt8) : List (List UInt8) → Nat → Int → Int
  | [], _, t => t
  | y :: r, i, t => lastD s r (i + 1) (if s = y then (i : Int) else t)
theorem lastD_no (s : List UInt8) : ∀ (L : List (List UInt8)) (i : Nat) (t : Int), s ∉ L → lastD s L i t = t
  | [], _, _, _ => rfl
  | y :: r, i, t, h => by
    rw [lastD, if_neg (fun e : s = y => h (by rw [e]; exact List.mem_cons_self)), lastD_no s r (i + 1) t (fun q => h (List.mem_cons_of_mem _ q))]
theorem lastD_fd (s : List UInt8) : ∀ (L : List (List UInt8)) (i : Nat), L.Nodup → lastD s L i (-1) = fd s L i
  | [], _, _ => rfl
  | y :: r, i, h => by
    obtain ⟨h1, h2⟩ := List.nodup_cons.1 h
    rw [lastD, fd]
    by_cases e : s = y
    · rw [if_pos e, if_pos e.symm, lastD_no s r _ _ (e ▸ h1)]
    · rw [if_neg e, if_neg (fun q => e q.symm), lastD_fd s r (i + 1) h2]
theorem events_l1 (acc : List Int) (x : ByteArray) (la1 : List ByteArray) (i : Nat) (b0 : Int) (lb1 : List ByteArray) (lb2 : List S44) (hl : lb1.length ≤ 1000000) (hi : i < 1000000) (hacc : acc.length ≤ 1000000) (R : List Int × Bool) (T : Int) (hneg : T < 0 → R = ([], false))
    (hc : 0 ≤ T → Ev (fun k => system_events.l0 k (acc ++ [T]) la1 (la1.length : Int) ((i + 1 : Nat) : Int) b0 lb1 lb2) R) (n : Nat) : ∀ (j : Nat) (t : Int), lb1.length - j = n → j ≤ lb1.length → lastD (dl x) ((vls lb1).drop j) j t = T → Ev (fun k => system_events.l1 k acc x t la1 (la1.length : Int) (i : Int) lb1 (lb1.length : Int) (j : Int) b0 lb1 lb2) R := by
  have hv := vls_len lb1
  induction n with
  | zero =>
    intro j t hn hj hT
    rw [drop_end (vls lb1) j (by omega), lastD] at hT
    subst hT
    by_cases c : t < 0
    · rw [hneg c]
      exact Ev.step (f := fun _ => some ([], false)) (fun k => by rw [system_events.l1, if_neg (by omega), if_pos c]) (Ev.now _)
    · exact Ev.step (f := fun k => system_events.l0 k (acc ++ [t]) la1 (la1.length : Int) ((i + 1 : Nat) : Int) b0 lb1 lb2) (fun k => by rw [system_events.l1, if_neg (by omega), if_neg c, if_pos (by omega), wrap_succ i (by omega)]) (hc (by omega))
  | succ n ih =>
    intro j t hn hj hT
    have h : j < lb1.length := by omega
    rw [drop_cons (vls lb1) j (by omega), lastD, vls_get lb1 j h] at hT
    refine Ev.step (f := fun k => system_events.l1 k acc x (if dl x = lb1[j].data.toList then (j : Int) else t) la1 (la1.length : Int) (i : Int) lb1 (lb1.length : Int) ((j + 1 : Nat) : Int) b0 lb1 lb2) (fun k => ?_) (ih (j + 1) _ (by omega) (by omega) hT)
    rw [system_events.l1, if_pos (by omega), if_pos (by omega), if_pos (by omega), rdOf_get _ lb1 j h, wrap_succ j (by omega), Lib.toList_data, Lib.toList_data]
    unfold dl
    by_cases c : x.data.toList = lb1[j].data.toList
    · rw [if_pos c, if_pos c]
    · rw [if_neg c, if_neg c]
def evI (lb1 : List ByteArray) (x : ByteArray) : Int := fd (dl x) (vls lb1) 0
def okE (la1 lb1 : List ByteArray) : Bool := la1.all (fun x => decide (0 ≤ evI lb1 x))
theorem events_l0 (la1 : List ByteArray) (b0 : Int) (lb1 : List ByteArray) (lb2 : List S44) (hl : lb1.length ≤ 1000) (hla : la1.length ≤ 1000) (hd : (vls lb1).Nodup) (n : Nat) : ∀ (acc : List Int) (i : Nat), la1.length - i = n → i ≤ la1.length → acc.length = i →
    Ev (fun k => system_events.l0 k acc la1 (la1.length : Int) (i : Int) b0 lb1 lb2) (if okE (la1.drop i) lb1 = true then (acc ++ (la1.drop i).map (evI lb1), true) else ([], false)) := by
  induction n with
  | zero =>
    intro acc i hn hi ha
    rw [drop_end la1 i (by omega)]
    refine Ev.step (f := fun _ => some (acc, true)) (fun k => by rw [system_events.l0, if_neg (by omega)]) ?_
    simpa [okE] using Ev.now (acc, true)
  | succ n ih =>
    intro acc i hn hi ha
    have h : i < la1.length := by omega
    rw [drop_cons la1 i h]
    refine Ev.step (f := fun k => system_events.l1 k acc la1[i] (-1) la1 (la1.length : Int) (i : Int) lb1 (lb1.length : Int) 0 b0 lb1 lb2) (fun k => by rw [system_events.l0, if_pos (by omega), if_pos (by omega), if_pos (by omega), rdOf_get _ la1 i h]) ?_
    refine events_l1 acc la1[i] la1 i b0 lb1 lb2 (by omega) (by omega) (by omega) _ (evI lb1 la1[i]) (fun c => ?_) (fun c => ?_) lb1.length 0 (-1) rfl (by omega) (by rw [List.drop_zero, lastD_fd _ _ _ hd]; rfl)
    · unfold okE
      rw [List.all_cons, decide_eq_false (by omega), Bool.false_and, if_neg (by simp)]
    · have := ih (acc ++ [evI lb1 la1[i]]) (i + 1) (by omega) (by omega) (by rw [List.length_append, List.length_singleton, ha])
      unfold okE at this ⊢
      rw [List.all_cons, decide_eq_true c, Bool.true_and, List.map_cons]
      simpa using this
theorem events_ev (a0 : Int) (la1 : List ByteArray) (la2 : List S44) (b0 : Int) (lb1 : List ByteArray) (lb2 : List S44) (hl : lb1.length ≤ 1000) (hla : la1.length ≤ 1000) (hd : (vls lb1).Nodup) :
    Ev (fun k => system_events.f k a0 la1 la2 b0 lb1 lb2) (if la1.length = lb1.length ∧ okE la1 lb1 = true then (la1.map (evI lb1), true) else ([], false)) := by
  unfold system_events.f
  by_cases c : la1.length = lb1.length
  · simp only [if_pos (show (la1.length : Int) = (lb1.length : Int) by omega)]
    have := events_l0 la1 b0 lb1 lb2 hl hla hd _ [] 0 rfl (by omega) rfl
    simpa [c] using this
  · simp only [if_neg (show ¬ (la1.length : Int) = (lb1.length : Int) by omega), if_neg (fun q : _ ∧ _ => c q.1)]
    exact Ev.now _
end Go.Proofs.Ytcnliampiibpbaa.Plain
