/- Plain laws over the printed functions: what each comes to. No condition but the ones written. -/
import Derived.Test.YtcnliampiibpbaaPlainE
import Derived.Test.YtcnliampiibpbaaPAllx19
namespace Go.Proofs.Ytcnliampiibpbaa.Plain
open Go Go.RowKit Go.Proofs.Ytcnliampiibpbaa.PAll Go.Proofs.YtcnliampiibpbaaW.PrintWords Go.Proofs.YtcnliampiibpbaaW.PrintLast Go.Proofs.YtcnliampiibpbaaW.PrintMore
set_option linter.unusedVariables false
/-! ### Iso of the specification -/
def evX (la1 lb1 : List ByteArray) (x : S44) : Int := evI lb1 (la1.getD x.f1.toNat ByteArray.empty)
def rr (lb2 : List S44) (ev : S44 → Int) : List S44 → List Int → Option (List Int)
  | [], img => some img
  | x :: xs, img => if gI img x.f0.toNat < 0 then rr lb2 ev xs img else (if nxL (gI img x.f0.toNat) (ev x) lb2 < 0 ∨ (0 ≤ gI img x.f2.toNat ∧ gI img x.f2.toNat ≠ nxL (gI img x.f0.toNat) (ev x) lb2) then none else rr lb2 ev xs (img.set x.f2.toNat (nxL (gI img x.f0.toNat) (ev x) lb2)))
def rN (la2 lb2 : List S44) (ev : S44 → Int) : Nat → List Int → Option (List Int)
  | 0, img => some img
  | m + 1, img => (rr lb2 ev la2 img).bind (rN la2 lb2 ev m)
theorem rr_len (lb2 : List S44) (ev : S44 → Int) : ∀ (xs : List S44) (img img' : List Int), rr lb2 ev xs img = some img' → img'.length = img.length
  | [], img, img', h => by rw [rr] at h; rw [Option.some.inj h]
  | x :: xs, img, img', h => by
    rw [rr] at h
    split at h
    · exact rr_len lb2 ev xs img img' h
    · split at h
      · simp at h
      · rw [rr_len lb2 ev xs _ img' h, List.length_set]
/-- The images in the course of the rounds. -/
structure RI (n : Nat) (img : List Int) : Prop where
  li : img.length = n
  rng : ∀ u, u < n → -1 ≤ gI img u ∧ gI img u < (n : Int)
  z : gI img 0 = 0
structure RR (n : Nat) (la2 lb2 : List S44) (ev : S44 → Int) (img img' : List Int) : Prop where
  ri : RI n img'
  un : uns img' ≤ uns img
  same : uns img' = uns img → img' = img
  agr : ∀ h, Ho n la2 lb2 ev h → Agr n img h → Agr n img' h
theorem set_same (img : List Int) (u : Nat) (t : Int) (hu : u < img.length) (h : gI img u = t) : img.set u t = img := by
  apply img_ext (by rw [List.length_set])
  intro v hv
  rw [gI_set]
  by_cases e : u = v ∧ v < img.length
  · rw [if_pos e, ← e.1, h]
  · rw [if_neg e]
theorem rr_spec (n : Nat) (hn : 0 < n) (la2 lb2 : List S44) (ev : S44 → Int) (hE : AB2 n la2 lb2) : ∀ (xs : List S44), (∀ x ∈ xs, x ∈ la2) → ∀ img, RI n img →
    (rr lb2 ev xs img = none → ∀ h, Ho n la2 lb2 ev h → Agr n img h → False) ∧ (∀ img', rr lb2 ev xs img = some img' → RR n la2 lb2 ev img img' ∧ (img' = img → ∀ x ∈ xs, 0 ≤ gI img x.f0.toNat → Sat lb2 ev img x))
  | [], _, img, hR => ⟨fun h => by rw [rr] at h; simp at h, fun img' h => by
      rw [rr] at h
      obtain rfl := Option.some.inj h
      exact ⟨⟨hR, Nat.le_refl _, fun _ => rfl, fun _ _ q => q⟩, fun _ x hx => absurd hx (by simp)⟩⟩
  | x :: xs, hxs, img, hR => by
    have hx := hxs x List.mem_cons_self
    have hxs' : ∀ y ∈ xs, y ∈ la2 := fun y hy => hxs y (List.mem_cons_of_mem _ hy)
    have ha := hE.a x hx
    rw [rr]
    by_cases c : gI img x.f0.toNat < 0
    · rw [if_pos c]
      obtain ⟨h1, h2⟩ := rr_spec n hn la2 lb2 ev hE xs hxs' img hR
      refine ⟨h1, fun img' h => ?_⟩
      obtain ⟨h3, h4⟩ := h2 img' h
      refine ⟨h3, fun e z hz g => ?_⟩
      rcases List.mem_cons.1 hz with rfl | hz
      · omega
      · exact h4 e z hz g
    · rw [if_neg c]
      have hq : ∀ h, Ho n la2 lb2 ev h → Agr n img h → nxL (gI img x.f0.toNat) (ev x) lb2 = ((h x.f2.toNat : Nat) : Int) := fun h g1 g2 => by
        rw [g2 x.f0.toNat (by omega) (by omega)]; exact g1.arc x hx
      generalize hqq : nxL (gI img x.f0.toNat) (ev x) lb2 = q at hq
      have hqn : q = -1 ∨ 0 ≤ q ∧ q < (n : Int) := by
        rcases nxL_mem (gI img x.f0.toNat) (ev x) lb2 with g | ⟨y, g1, _, _, g2⟩
        · exact .inl (by rw [← hqq, g])
        · have := hE.b y g1; exact .inr (by rw [← hqq, g2]; exact this)
      by_cases d : q < 0 ∨ (0 ≤ gI img x.f2.toNat ∧ gI img x.f2.toNat ≠ q)
      · rw [if_pos d]
        refine ⟨fun _ h g1 g2 => ?_, fun img' h => by simp at h⟩
        have e := hq h g1 g2
        rcases d with d | ⟨d1, d2⟩
        · omega
        · exact d2 (by rw [g2 x.f2.toNat (by omega) d1, e])
      · rw [if_neg d]
        have hq0 : 0 ≤ q := by omega
        have hl : x.f2.toNat < img.length := by rw [hR.li]; omega
        have g_s : gI (img.set x.f2.toNat q) x.f2.toNat = q := by rw [gI_set, if_pos ⟨rfl, hl⟩]
        have g_o : ∀ u, u ≠ x.f2.toNat → gI (img.set x.f2.toNat q) u = gI img u := fun u hu => by rw [gI_set, if_neg (fun w => hu w.1.symm)]
        have hR' : RI n (img.set x.f2.toNat q) := by
          refine ⟨by rw [List.length_set, hR.li], fun u hu => ?_, ?_⟩
          · by_cases e : u = x.f2.toNat
            · rw [e, g_s]; omega
            · rw [g_o u e]; exact hR.rng u hu
          · by_cases e : 0 = x.f2.toNat
            · rw [e, g_s]
              have hz := hR.z
              rw [e] at hz
              by_cases w : gI img x.f2.toNat = q
              · omega
              · exact absurd (.inr ⟨by omega, w⟩) d
            · rw [g_o 0 e]; exact hR.z
        have hagr : ∀ h, Ho n la2 lb2 ev h → Agr n img h → Agr n (img.set x.f2.toNat q) h := fun h g1 g2 u hu g => by
          by_cases e : u = x.f2.toNat
          · rw [e, g_s]; exact hq h g1 g2
          · rw [g_o u e] at g ⊢; exact g2 u hu g
        obtain ⟨h1, h2⟩ := rr_spec n hn la2 lb2 ev hE xs hxs' _ hR'
        refine ⟨fun h h' g1 g2 => h1 h h' g1 (hagr h' g1 g2), fun img' h => ?_⟩
        obtain ⟨h3, h4⟩ := h2 img' h
        by_cases w : gI img x.f2.toNat = q
        · have es := set_same img x.f2.toNat q hl w
          rw [es] at h3 h4
          refine ⟨h3, fun e z hz g => ?_⟩
          rcases List.mem_cons.1 hz with rfl | hz
          · exact ⟨by rw [hqq, w], by omega, by omega⟩
          · exact h4 e z hz g
        · have hneg : gI img x.f2.toNat < 0 := by
            rcases Int.lt_or_le (gI img x.f2.toNat) 0 with p | p
            · exact p
            · exact absurd (.inr ⟨p, w⟩) d
          have hu := uns_set img x.f2.toNat q hl hneg hq0
          have hun := h3.un
          refine ⟨⟨h3.ri, by omega, fun e => by omega, fun h' g1 g2 => h3.agr h' g1 (hagr h' g1 g2)⟩, fun e => ?_⟩
          rw [e] at hun
          omega
theorem rr_fix (lb2 : List S44) (ev : S44 → Int) (img : List Int) : ∀ xs : List S44, (∀ x ∈ xs, x.f2.toNat < img.length) → (∀ x ∈ xs, 0 ≤ gI img x.f0.toNat → Sat lb2 ev img x) → rr lb2 ev xs img = some img
  | [], _, _ => rfl
  | x :: xs, hl, hs => by
    have ih := rr_fix lb2 ev img xs (fun y hy => hl y (List.mem_cons_of_mem _ hy)) (fun y hy => hs y (List.mem_cons_of_mem _ hy))
    rw [rr]
    by_cases c : gI img x.f0.toNat < 0
    · rw [if_pos c, ih]
    · rw [if_neg c]
      obtain ⟨s1, s2, s3⟩ := hs x List.mem_cons_self (by omega)
      rw [s1, if_neg (by omega), set_same img _ _ (hl x List.mem_cons_self) rfl, ih]
theorem rN_spec (n : Nat) (hn : 0 < n) (la2 lb2 : List S44) (ev : S44 → Int) (hE : AB2 n la2 lb2) : ∀ (m : Nat) (img : List Int), RI n img →
    (rN la2 lb2 ev m img = none → ∀ h, Ho n la2 lb2 ev h → Agr n img h → False) ∧ (∀ img', rN la2 lb2 ev m img = some img' → RI n img' ∧ (∀ h, Ho n la2 lb2 ev h → Agr n img h → Agr n img' h) ∧ ((∀ x ∈ la2, 0 ≤ gI img' x.f0.toNat → Sat lb2 ev img' x) ∨ uns img' + m ≤ uns img))
  | 0, img, hR => ⟨fun h => by rw [rN] at h; simp at h, fun img' h => by
      rw [rN] at h
      obtain rfl := Option.some.inj h
      exact ⟨hR, fun _ _ q => q, .inr (by omega)⟩⟩
  | m + 1, img, hR => by
    obtain ⟨h1, h2⟩ := rr_spec n hn la2 lb2 ev hE la2 (fun _ h => h) img hR
    rw [rN]
    cases e : rr lb2 ev la2 img with
    | none => exact ⟨fun _ => h1 e, fun img' h => by simp at h⟩
    | some i1 =>
      rw [Option.bind_some]
      obtain ⟨r, s⟩ := h2 i1 e
      obtain ⟨h3, h4⟩ := rN_spec n hn la2 lb2 ev hE m i1 r.ri
      refine ⟨fun h h' g1 g2 => h3 h h' g1 (r.agr h' g1 g2), fun img' h => ?_⟩
      obtain ⟨q1, q2, q3⟩ := h4 img' h
      refine ⟨q1, fun h' g1 g2 => q2 h' g1 (r.agr h' g1 g2), ?_⟩
      by_cases u : uns i1 = uns img
      · have ei := r.same u
        subst ei
        have hs := s rfl
        have hfix : ∀ m, rN la2 lb2 ev m i1 = some i1 := fun m => by
          induction m with
          | zero => rfl
          | succ m ih => rw [rN, rr_fix lb2 ev i1 la2 (fun x hx => by rw [r.ri.li]; have := hE.a x hx; omega) hs, Option.bind_some, ih]
        rw [hfix m] at h
        obtain rfl := Option.some.inj h
        exact .inl hs
      · rcases q3 with q3 | q3
        · exact .inl q3
        · have := r.un; exact .inr (by omega)
def img0 (n : Nat) : List Int := (List.replicate n (-1)).set 0 0
theorem img0_RI (n : Nat) (hn : 0 < n) : RI n (img0 n) := by
  unfold img0
  have g : ∀ u, gI ((List.replicate n (-1)).set 0 0) u = if 0 = u ∧ u < n then 0 else -1 := fun u => by rw [gI_set, gI_repl, List.length_replicate]
  refine ⟨by rw [List.length_set, List.length_replicate], fun u hu => ?_, ?_⟩
  · rw [g]; split <;> omega
  · rw [g, if_pos ⟨rfl, hn⟩]
theorem img0_uns (n : Nat) (hn : 0 < n) : uns (img0 n) + 1 = n := by
  unfold img0
  rw [uns_set _ 0 0 (by rw [List.length_replicate]; exact hn) (by rw [gI_repl]; omega) (by omega), uns_repl]
theorem img0_agr (n : Nat) {h : Nat → Nat} (hz : h 0 = 0) : Agr n (img0 n) h := by
  intro u hu g
  unfold img0 at g ⊢
  rw [gI_set, gI_repl] at g ⊢
  by_cases e : 0 = u ∧ u < (List.replicate n (-1 : Int)).length
  · rw [if_pos e, ← e.1, hz]; rfl
  · rw [if_neg e] at g; omega
/-- What the rounds come to: the map, if there is one. -/
theorem rounds_spec (n : Nat) (hn : 0 < n) (la2 lb2 : List S44) (ev : S44 → Int) (hE : AB2 n la2 lb2) (hr : AllR n la2) : (rN la2 lb2 ev n (img0 n) = none ∧ ∀ h, Ho n la2 lb2 ev h → False) ∨ ∃ img, rN la2 lb2 ev n (img0 n) = some img ∧ img.length = n ∧ (∀ u, u < n → 0 ≤ gI img u ∧ gI img u < (n : Int)) ∧ Ho n la2 lb2 ev (fun u => (gI img u).toNat) := by
  obtain ⟨h1, h2⟩ := rN_spec n hn la2 lb2 ev hE n (img0 n) (img0_RI n hn)
  cases e : rN la2 lb2 ev n (img0 n) with
  | none => exact .inl ⟨rfl, fun h g => h1 e h g (img0_agr n g.z)⟩
  | some img =>
    obtain ⟨q1, _, q3⟩ := h2 img e
    have hc : ∀ x ∈ la2, 0 ≤ gI img x.f0.toNat → Sat lb2 ev img x := by
      rcases q3 with q3 | q3
      · exact q3
      · have := img0_uns n hn; omega
    obtain ⟨p1, p2⟩ := closed_all hE hr hn (fun u hu => (q1.rng u hu).2) q1.z hc
    exact .inr ⟨img, rfl, q1.li, fun u hu => ⟨p1 u hu, (q1.rng u hu).2⟩, p2⟩

/-! ### Iso of the specification: its loops -/
section
variable (a0 : Int) (la1 : List ByteArray) (la2 : List S44) (b0 : Int) (lb1 : List ByteArray) (lb2 : List S44) (n : Nat)
theorem at_ev (s : ByteArray) (l : List ByteArray) (hl : l.length ≤ 1000000) : Ev (fun k => petrinetref45_at.f k l s) (evI l s) := ⟨l.length + 1, fun k hk => at_is s l hl k (by omega)⟩
theorem rIso_l2 (hlb1 : lb1.length ≤ 1000000) (hla : la2.length ≤ 1000000) (hlb : lb2.length ≤ 1000000) (hvb : vaB b0 lb1 lb2 = true) (harc : ∀ x ∈ la2, 0 ≤ x.f0 ∧ x.f0 < (n : Int) ∧ 0 ≤ x.f2 ∧ x.f2 < (n : Int) ∧ 0 ≤ x.f1 ∧ x.f1 < (la1.length : Int)) (kk : Int) (hkk : wrap64 (kk + 1) = kk + 1) (R : List Int × Bool) (m : Nat) :
    ∀ (img : List Int) (i : Nat), la2.length - i = m → i ≤ la2.length → img.length = n → (rr lb2 (evX la1 lb1) (la2.drop i) img = none → R = ([], false)) → (∀ img', rr lb2 (evX la1 lb1) (la2.drop i) img = some img' → Ev (fun k => petrinetref45_Iso.l1 k img' (kk + 1) a0 la1 la2 b0 lb1 lb2) R) →
    Ev (fun k => petrinetref45_Iso.l2 k img kk (i : Int) a0 la1 la2 b0 lb1 lb2) R := by
  induction m with
  | zero =>
    intro img i hm hi hl h1 h2
    have := h2 img (by rw [drop_end la2 i (by omega), rr])
    exact Ev.step (f := fun k => petrinetref45_Iso.l1 k img (kk + 1) a0 la1 la2 b0 lb1 lb2) (fun k => by rw [petrinetref45_Iso.l2, if_neg (by omega), hkk]) this
  | succ m ih =>
    intro img i hm hi hl h1 h2
    have hil : i < la2.length := by omega
    rw [drop_cons la2 i hil, rr] at h1 h2
    have ha := harc la2[i] (List.getElem_mem hil)
    obtain ⟨f0, hf0⟩ := Int.eq_ofNat_of_zero_le ha.1
    obtain ⟨f2, hf2⟩ := Int.eq_ofNat_of_zero_le ha.2.2.1
    obtain ⟨f1, hf1⟩ := Int.eq_ofNat_of_zero_le ha.2.2.2.2.1
    have e0 : la2[i].f0.toNat = f0 := by omega
    have e2 : la2[i].f2.toNat = f2 := by omega
    have hf1l : f1 < la1.length := by omega
    have eev : evX la1 lb1 la2[i] = evI lb1 la1[f1] := by
      unfold evX
      have : la2[i].f1.toNat = f1 := by omega
      rw [this, getD_get la1 f1 hf1l]
    rw [e0, e2, eev] at h1 h2
    by_cases c : gI img f0 < 0
    · rw [if_pos c] at h1 h2
      refine Ev.step (f := fun k => petrinetref45_Iso.l2 k img kk ((i + 1 : Nat) : Int) a0 la1 la2 b0 lb1 lb2) (fun k => ?_) (ih img (i + 1) (by omega) (by omega) hl h1 h2)
      rw [petrinetref45_Iso.l2, if_pos (by omega), if_pos (by omega), rdT_get la2 i hil, hf0, if_pos (by omega), if_pos (by omega), rd_gI img f0 (by omega), if_pos c, wrap_succ i (by omega)]
    · rw [if_neg c] at h1 h2
      refine Ev.step (f := fun k => (petrinetref45_at.f k lb1 la1[f1]).bind fun t340 => (petrinetref45_Next.f k b0 lb1 lb2 (gI img f0) t340).bind fun t341 => if t341 < 0 then some ([], false) else (if gI img f2 ≥ 0 then (if gI img f2 = t341 then petrinetref45_Iso.l2 k (img.set f2 t341) kk ((i + 1 : Nat) : Int) a0 la1 la2 b0 lb1 lb2 else some ([], false)) else petrinetref45_Iso.l2 k (img.set f2 t341) kk ((i + 1 : Nat) : Int) a0 la1 la2 b0 lb1 lb2)) (fun k => ?_) ?_
      · rw [petrinetref45_Iso.l2, if_pos (by omega), if_pos (by omega), rdT_get la2 i hil, hf0, if_pos (by omega), if_pos (by omega), rd_gI img f0 (by omega), if_neg c, hf1, if_pos (by omega), if_pos (by omega), rdOf_get _ la1 f1 hf1l, hf2, rd_gI img f2 (by omega), wrap_succ i (by omega)]
        simp only [if_pos (show (0 : Int) ≤ (f2 : Int) by omega), if_pos (show (f2 : Int) < (img.length : Int) by omega), Int.toNat_natCast]
      · have hn := rNext_ev (gI img f0) (evI lb1 la1[f1]) b0 lb1 lb2 hlb
        have en : nxS b0 lb1 lb2 (gI img f0) (evI lb1 la1[f1]) = nxL (gI img f0) (evI lb1 la1[f1]) lb2 := by unfold nxS; rw [if_pos hvb]
        rw [en] at hn
        refine Ev.bind (at_ev la1[f1] lb1 hlb1) (Ev.bind hn ?_)
        generalize nxL (gI img f0) (evI lb1 la1[f1]) lb2 = q at h1 h2 ⊢
        have fail : (q < 0 ∨ 0 ≤ gI img f2 ∧ gI img f2 ≠ q) → R = ([], false) := fun d => h1 (by rw [if_pos d])
        have goon : ¬ (q < 0 ∨ 0 ≤ gI img f2 ∧ gI img f2 ≠ q) → Ev (fun k => petrinetref45_Iso.l2 k (img.set f2 q) kk ((i + 1 : Nat) : Int) a0 la1 la2 b0 lb1 lb2) R := fun d => by
          rw [if_neg d] at h1 h2
          exact ih (img.set f2 q) (i + 1) (by omega) (by omega) (by rw [List.length_set, hl]) h1 h2
        by_cases d1 : q < 0
        · simp only [if_pos d1]; rw [fail (.inl d1)]; exact Ev.now _
        · simp only [if_neg d1]
          by_cases d2 : gI img f2 ≥ 0
          · simp only [if_pos d2]
            by_cases d3 : gI img f2 = q
            · simp only [if_pos d3]; exact goon (by omega)
            · simp only [if_neg d3]; rw [fail (.inr ⟨d2, d3⟩)]; exact Ev.now _
          · simp only [if_neg d2]; exact goon (by omega)
theorem rIso_l1 (ha0 : a0 = (n : Int)) (hn : n ≤ 1000000) (hlb1 : lb1.length ≤ 1000000) (hla : la2.length ≤ 1000000) (hlb : lb2.length ≤ 1000000) (hvb : vaB b0 lb1 lb2 = true) (harc : ∀ x ∈ la2, 0 ≤ x.f0 ∧ x.f0 < (n : Int) ∧ 0 ≤ x.f2 ∧ x.f2 < (n : Int) ∧ 0 ≤ x.f1 ∧ x.f1 < (la1.length : Int)) (R : List Int × Bool) (m : Nat) :
    ∀ (img : List Int) (i : Nat), n - i = m → i ≤ n → img.length = n → (rN la2 lb2 (evX la1 lb1) m img = none → R = ([], false)) → (∀ img', rN la2 lb2 (evX la1 lb1) m img = some img' → Ev (fun k => petrinetref45_Iso.l3 k img' (List.replicate n false) 0 a0 la1 la2 b0 lb1 lb2) R) →
    Ev (fun k => petrinetref45_Iso.l1 k img (i : Int) a0 la1 la2 b0 lb1 lb2) R := by
  induction m with
  | zero =>
    intro img i hm hi hl h1 h2
    have := h2 img (by rw [rN])
    refine Ev.step (f := fun k => petrinetref45_Iso.l3 k img (List.replicate n false) 0 a0 la1 la2 b0 lb1 lb2) (fun k => ?_) this
    have e : a0.toNat = n := by omega
    rw [petrinetref45_Iso.l1, if_neg (by omega), if_pos (by omega), e, if_pos (by omega)]
  | succ m ih =>
    intro img i hm hi hl h1 h2
    refine Ev.step (f := fun k => petrinetref45_Iso.l2 k img (i : Int) 0 a0 la1 la2 b0 lb1 lb2) (fun k => by rw [petrinetref45_Iso.l1, if_pos (by omega)]) ?_
    have hw : wrap64 ((i : Int) + 1) = (i : Int) + 1 := by unfold wrap64; omega
    refine rIso_l2 a0 la1 la2 b0 lb1 lb2 n hlb1 hla hlb hvb harc (i : Int) hw R la2.length img 0 rfl (by omega) hl (fun e => ?_) (fun img' e => ?_)
    · rw [List.drop_zero] at e
      exact h1 (by rw [rN, e]; rfl)
    · rw [List.drop_zero] at e
      have hl' : img'.length = n := by rw [rr_len lb2 _ la2 img img' e, hl]
      have := ih img' (i + 1) (by omega) (by omega) hl' (fun e2 => h1 (by rw [rN, e, Option.bind_some, e2])) (fun i2 e2 => h2 i2 (by rw [rN, e, Option.bind_some, e2]))
      simpa using this
theorem rIso_l4 (hlb1 : lb1.length ≤ 1000000) (hla1 : la1.length ≤ 1000000) (img : List Int) (m : Nat) : ∀ i : Nat, la1.length - i = m → i ≤ la1.length → Ev (fun k => petrinetref45_Iso.l4 k img (i : Int) a0 la1 la2 b0 lb1 lb2) (if okE (la1.drop i) lb1 = true then (img, true) else ([], false)) := by
  induction m with
  | zero =>
    intro i hm hi
    rw [drop_end la1 i (by omega)]
    exact Ev.step (f := fun _ => some (img, true)) (fun k => by rw [petrinetref45_Iso.l4, if_neg (by omega)]) (Ev.now _)
  | succ m ih =>
    intro i hm hi
    have h : i < la1.length := by omega
    rw [drop_cons la1 i h]
    refine Ev.step (f := fun k => (petrinetref45_at.f k lb1 la1[i]).bind fun t355 => if t355 < 0 then some ([], false) else petrinetref45_Iso.l4 k img ((i + 1 : Nat) : Int) a0 la1 la2 b0 lb1 lb2) (fun k => by rw [petrinetref45_Iso.l4, if_pos (by omega), if_pos (by omega), rdOf_get _ la1 i h, wrap_succ i (by omega)]) ?_
    refine Ev.bind (at_ev la1[i] lb1 hlb1) ?_
    unfold okE
    rw [List.all_cons]
    by_cases c : evI lb1 la1[i] < 0
    · simp only [if_pos c]
      rw [decide_eq_false (by omega), Bool.false_and, if_neg (by simp)]
      exact Ev.now _
    · simp only [if_neg c]
      rw [decide_eq_true (by omega), Bool.true_and]
      exact ih (i + 1) (by omega) (by omega)
theorem rIso_l3 (ha0 : a0 = (n : Int)) (hn : n ≤ 1000000) (img : List Int) (hl : img.length = n) (hg : ∀ u, u < n → 0 ≤ gI img u ∧ gI img u < (n : Int)) (R : List Int × Bool) (h4 : Inj n (fun u => (gI img u).toNat) → Ev (fun k => petrinetref45_Iso.l4 k img 0 a0 la1 la2 b0 lb1 lb2) R) (h5 : ¬ Inj n (fun u => (gI img u).toNat) → R = ([], false)) (m : Nat) :
    ∀ (used : List Bool) (i : Nat), n - i = m → i ≤ n → used.length = n → (∀ t : Nat, t < n → (gB used t = true ↔ ∃ u, u < i ∧ gI img u = (t : Int))) → (∀ u v, u < i → v < i → gI img u = gI img v → u = v) → Ev (fun k => petrinetref45_Iso.l3 k img used (i : Int) a0 la1 la2 b0 lb1 lb2) R := by
  induction m with
  | zero =>
    intro used i hm hi hu h1 h2
    refine Ev.step (f := fun k => petrinetref45_Iso.l4 k img 0 a0 la1 la2 b0 lb1 lb2) (fun k => by rw [petrinetref45_Iso.l3, if_neg (by omega)]) (h4 (fun u v hu hv e => h2 u v (by omega) (by omega) ?_))
    have e' : (gI img u).toNat = (gI img v).toNat := e
    have := hg u hu
    have := hg v hv
    omega
  | succ m ih =>
    intro used i hm hi hu h1 h2
    have hil : i < n := by omega
    obtain ⟨g0, g1⟩ := hg i hil
    obtain ⟨t, ht⟩ := Int.eq_ofNat_of_zero_le g0
    have htn : t < n := by omega
    by_cases c : gB used t = true
    · rw [h5 (fun q => by
        obtain ⟨u, hu', e⟩ := (h1 t htn).mp c
        have : u = i := q u i (by omega) hil (by show (gI img u).toNat = (gI img i).toNat; rw [e, ht])
        omega)]
      refine Ev.step (f := fun _ => some ([], false)) (fun k => ?_) (Ev.now _)
      rw [petrinetref45_Iso.l3, if_pos (by omega), if_pos (by omega), if_pos (by omega), rd_gI img i (by omega), if_neg (by omega), if_pos (by omega), if_pos (by omega), ht, rdB, if_pos c]
    · refine Ev.step (f := fun k => petrinetref45_Iso.l3 k img (used.set t true) ((i + 1 : Nat) : Int) a0 la1 la2 b0 lb1 lb2) (fun k => ?_) (ih (used.set t true) (i + 1) (by omega) (by omega) (by rw [List.length_set, hu]) (fun t' ht' => ?_) (fun u v hu' hv' e => ?_))
      · rw [petrinetref45_Iso.l3, if_pos (by omega), if_pos (by omega), if_pos (by omega), rd_gI img i (by omega), if_neg (by omega), if_pos (by omega), if_pos (by omega), ht, rdB, if_neg c, wrap_succ i (by omega), Int.toNat_natCast]
      · rw [gB_set]
        by_cases e : t = t'
        · subst e
          rw [if_pos ⟨rfl, by omega⟩]
          exact ⟨fun _ => ⟨i, by omega, ht⟩, fun _ => rfl⟩
        · rw [if_neg (fun q => e q.1), h1 t' ht']
          constructor
          · rintro ⟨u, hu', q⟩; exact ⟨u, by omega, q⟩
          · rintro ⟨u, hu', q⟩
            have : u ≠ i := fun z => by subst z; omega
            exact ⟨u, by omega, q⟩
      · have nt : ∀ w, w < i → gI img w ≠ (t : Int) := fun w hw q => c ((h1 t htn).mpr ⟨w, hw, q⟩)
        by_cases e1 : u = i
        · by_cases e2 : v = i
          · omega
          · subst e1; rw [ht] at e; exact absurd e.symm (nt v (by omega))
        · by_cases e2 : v = i
          · subst e2; rw [ht] at e; exact absurd e (nt u (by omega))
          · exact h2 u v (by omega) (by omega) e
theorem rIso_l0 (ha0 : a0 = (n : Int)) (hn0 : 0 < n) (hn : n ≤ 1000000) (R : List Int × Bool) (h : Ev (fun k => petrinetref45_Iso.l1 k (img0 n) 0 a0 la1 la2 b0 lb1 lb2) R) (m : Nat) : ∀ i : Nat, n - i = m → i ≤ n → Ev (fun k => petrinetref45_Iso.l0 k (List.replicate i (-1)) (i : Int) a0 la1 la2 b0 lb1 lb2) R := by
  induction m with
  | zero =>
    intro i hm hi
    have e : i = n := by omega
    subst e
    refine Ev.step (f := fun k => petrinetref45_Iso.l1 k (img0 i) 0 a0 la1 la2 b0 lb1 lb2) (fun k => ?_) h
    rw [petrinetref45_Iso.l0, if_neg (by omega), List.length_replicate, if_pos (by omega)]
    rfl
  | succ m ih =>
    intro i hm hi
    refine Ev.step (f := fun k => petrinetref45_Iso.l0 k (List.replicate (i + 1) (-1)) ((i + 1 : Nat) : Int) a0 la1 la2 b0 lb1 lb2) (fun k => ?_) (ih (i + 1) (by omega) (by omega))
    rw [petrinetref45_Iso.l0, if_pos (by omega), List.length_replicate, if_pos (by omega), wrap_succ i (by omega), List.replicate_succ']
end
/-- When two systems are suited to each other. -/
structure Suit (a0 : Int) (la1 : List ByteArray) (la2 : List S44) (b0 : Int) (lb1 : List ByteArray) (lb2 : List S44) : Prop where
  da : dtB a0 la1 la2 = true
  db : dtB b0 lb1 lb2 = true
  ra : ∀ v, v < a0.toNat → RC (grG a0 la2) [0] v
  rb : ∀ v, v < b0.toNat → RC (grG b0 lb2) [0] v
  st : a0 = b0
  ar : la2.length = lb2.length
  el : la1.length = lb1.length
  ok : okE la1 lb1 = true
theorem Suit.va {a0 : Int} {la1 : List ByteArray} {la2 : List S44} {b0 : Int} {lb1 : List ByteArray} {lb2 : List S44} (h : Suit a0 la1 la2 b0 lb1 lb2) : vaB a0 la1 la2 = true ∧ vaB b0 lb1 lb2 = true := by
  have h1 := h.da
  have h2 := h.db
  unfold dtB at h1 h2
  exact ⟨(Bool.and_eq_true_iff.mp h1).1, (Bool.and_eq_true_iff.mp h2).1⟩
/-- Iso, on both sides, and what its answer means. -/
theorem iso_both (a0 : Int) (la1 : List ByteArray) (la2 : List S44) (b0 : Int) (lb1 : List ByteArray) (lb2 : List S44) (hla : la2.length ≤ 1000000) (hlb : lb2.length ≤ 1000000) :
    ∃ R, Ev (fun k => system_Iso.f k a0 la1 la2 b0 lb1 lb2) R ∧ Ev (fun k => petrinetref45_Iso.f k a0 la1 la2 b0 lb1 lb2) R ∧ ((Suit a0 la1 la2 b0 lb1 lb2 ∧ IsoA a0.toNat la2 lb2 (evX la1 lb1) R) ∨ (¬ Suit a0 la1 la2 b0 lb1 lb2 ∧ R = ([], false))) := by
  obtain ⟨ra, sa1, sa2, sa3⟩ := reachable_both a0 la1 la2 hla
  obtain ⟨rb, sb1, sb2, sb3⟩ := reachable_both b0 lb1 lb2 hlb
  have da1 := sdet_ev a0 la1 la2 hla
  have da2 := rdet_ev a0 la1 la2 hla
  have db1 := sdet_ev b0 lb1 lb2 hlb
  have db2 := rdet_ev b0 lb1 lb2 hlb
  have jn : Ev (fun k => petrinetref45_Iso.j0 k true a0 la1 la2 b0 lb1 lb2) ([], false) := Ev.step (f := fun _ => some ([], false)) (fun k => by rw [petrinetref45_Iso.j0, if_pos rfl]) (Ev.now _)
  -- the refusals, one by one
  by_cases c1 : dtB a0 la1 la2 = true
  case neg =>
    refine ⟨([], false), ?_, ?_, .inr ⟨fun s => c1 s.da, rfl⟩⟩
    · unfold system_Iso.f; refine Ev.bind da1 ?_; simp only [if_neg c1]; exact Ev.now _
    · unfold petrinetref45_Iso.f; refine Ev.bind da2 ?_; simp only [if_neg c1]; exact jn
  by_cases c2 : ra = true
  case neg =>
    refine ⟨([], false), ?_, ?_, .inr ⟨fun s => c2 (sa3.mpr ⟨s.va.1, s.ra⟩), rfl⟩⟩
    · unfold system_Iso.f; refine Ev.bind da1 ?_; simp only [if_pos c1]; refine Ev.bind sa1 ?_; simp only [if_neg c2]; exact Ev.now _
    · unfold petrinetref45_Iso.f; refine Ev.bind da2 ?_; simp only [if_pos c1]; refine Ev.bind db2 ?_
      by_cases c3 : dtB b0 lb1 lb2 = true
      · simp only [if_pos c3]; refine Ev.bind sa2 ?_; simp only [if_neg c2]; exact jn
      · simp only [if_neg c3]; exact jn
  by_cases c3 : dtB b0 lb1 lb2 = true
  case neg =>
    refine ⟨([], false), ?_, ?_, .inr ⟨fun s => c3 s.db, rfl⟩⟩
    · unfold system_Iso.f; refine Ev.bind da1 ?_; simp only [if_pos c1]; refine Ev.bind sa1 ?_; simp only [if_pos c2]; refine Ev.bind db1 ?_; simp only [if_neg c3]; exact Ev.now _
    · unfold petrinetref45_Iso.f; refine Ev.bind da2 ?_; simp only [if_pos c1]; refine Ev.bind db2 ?_; simp only [if_neg c3]; exact jn
  by_cases c4 : rb = true
  case neg =>
    refine ⟨([], false), ?_, ?_, .inr ⟨fun s => c4 (sb3.mpr ⟨s.va.2, s.rb⟩), rfl⟩⟩
    · unfold system_Iso.f; refine Ev.bind da1 ?_; simp only [if_pos c1]; refine Ev.bind sa1 ?_; simp only [if_pos c2]; refine Ev.bind db1 ?_; simp only [if_pos c3]; refine Ev.bind sb1 ?_; simp only [if_neg c4]; exact Ev.now _
    · unfold petrinetref45_Iso.f; refine Ev.bind da2 ?_; simp only [if_pos c1]; refine Ev.bind db2 ?_; simp only [if_pos c3]; refine Ev.bind sa2 ?_; simp only [if_pos c2]; refine Ev.bind sb2 ?_; simp only [if_neg c4]; exact jn
  have pre : ∀ R, Ev (fun k => if a0 = b0 then (if la2.length = lb2.length then (system_events.f k a0 la1 la2 b0 lb1 lb2).bind fun p => (if p.2 = true then isoT k a0 la2 b0 lb1 lb2 p.1 else some ([], false)) else some ([], false)) else some ([], false)) R → Ev (fun k => system_Iso.f k a0 la1 la2 b0 lb1 lb2) R := fun R h => by
    unfold system_Iso.f; refine Ev.bind da1 ?_; simp only [if_pos c1]; refine Ev.bind sa1 ?_; simp only [if_pos c2]; refine Ev.bind db1 ?_; simp only [if_pos c3]; refine Ev.bind sb1 ?_; simp only [if_pos c4]; exact h
  have pre2 : ∀ R, Ev (fun k => if a0 = b0 then (if (la1.length : Int) = (lb1.length : Int) then petrinetref45_Iso.j0 k ((la2.length : Int) != (lb2.length : Int)) a0 la1 la2 b0 lb1 lb2 else petrinetref45_Iso.j0 k true a0 la1 la2 b0 lb1 lb2) else petrinetref45_Iso.j0 k true a0 la1 la2 b0 lb1 lb2) R → Ev (fun k => petrinetref45_Iso.f k a0 la1 la2 b0 lb1 lb2) R := fun R h => by
    unfold petrinetref45_Iso.f; refine Ev.bind da2 ?_; simp only [if_pos c1]; refine Ev.bind db2 ?_; simp only [if_pos c3]; refine Ev.bind sa2 ?_; simp only [if_pos c2]; refine Ev.bind sb2 ?_; simp only [if_pos c4]; exact h
  obtain ⟨vA, rA⟩ := sa3.mp c2
  obtain ⟨vB, rB⟩ := sb3.mp c4
  have pA := va_of vA
  have pB := va_of vB
  by_cases c5 : a0 = b0
  case neg =>
    refine ⟨([], false), pre _ ?_, pre2 _ ?_, .inr ⟨fun s => c5 s.st, rfl⟩⟩
    · simp only [if_neg c5]; exact Ev.now _
    · simp only [if_neg c5]; exact jn
  by_cases c6 : la2.length = lb2.length
  case neg =>
    refine ⟨([], false), pre _ ?_, pre2 _ ?_, .inr ⟨fun s => c6 s.ar, rfl⟩⟩
    · simp only [if_pos c5, if_neg c6]; exact Ev.now _
    · simp only [if_pos c5]
      have e : ((la2.length : Int) != (lb2.length : Int)) = true := bne_iff_ne.mpr (by omega)
      by_cases c7 : (la1.length : Int) = (lb1.length : Int)
      · simp only [if_pos c7, e]; exact jn
      · simp only [if_neg c7]; exact jn
  have hev := events_ev a0 la1 la2 b0 lb1 lb2 (by have := pB.ev; omega) (by have := pA.ev; omega) (nodup_of pB)
  by_cases c7 : la1.length = lb1.length
  case neg =>
    refine ⟨([], false), pre _ ?_, pre2 _ ?_, .inr ⟨fun s => c7 s.el, rfl⟩⟩
    · simp only [if_pos c5, if_pos c6]
      rw [if_neg (fun q : _ ∧ _ => c7 q.1)] at hev
      exact Ev.bind hev (Ev.now _)
    · simp only [if_pos c5, if_neg (show ¬ (la1.length : Int) = (lb1.length : Int) by omega)]; exact jn
  -- the arcs
  have hlo := pA.lo
  have hhi := pA.hi
  have hn0 : 0 < a0.toNat := by omega
  have han : a0 = (a0.toNat : Int) := by omega
  have hbn : b0 = (a0.toNat : Int) := by omega
  have hE : AB2 a0.toNat la2 lb2 := ⟨fun x hx => by have := pA.arcs x hx; omega, fun y hy => by have := pB.arcs y hy; omega⟩
  have harc : ∀ x ∈ la2, 0 ≤ x.f0 ∧ x.f0 < (a0.toNat : Int) ∧ 0 ≤ x.f2 ∧ x.f2 < (a0.toNat : Int) ∧ 0 ≤ x.f1 ∧ x.f1 < (la1.length : Int) := fun x hx => by have := pA.arcs x hx; omega
  have hAR := allR_of pA rA
  have e8 : ((la2.length : Int) != (lb2.length : Int)) = false := bne_eq_false_iff_eq.mpr (by omega)
  -- the specification's rounds
  have hlb1 : lb1.length ≤ 1000000 := by have := pB.ev; omega
  have hla1 : la1.length ≤ 1000000 := by have := pA.ev; omega
  have start : ∀ R, Ev (fun k => petrinetref45_Iso.l1 k (img0 a0.toNat) 0 a0 la1 la2 b0 lb1 lb2) R → Ev (fun k => petrinetref45_Iso.f k a0 la1 la2 b0 lb1 lb2) R := fun R h => by
    refine pre2 R ?_
    simp only [if_pos c5, if_pos (show (la1.length : Int) = (lb1.length : Int) by omega), e8]
    refine Ev.step (f := fun k => petrinetref45_Iso.l0 k [] 0 a0 la1 la2 b0 lb1 lb2) (fun k => by rw [petrinetref45_Iso.j0, if_neg (by simp)]) ?_
    exact rIso_l0 a0 la1 la2 b0 lb1 lb2 a0.toNat han hn0 (by omega) R h _ 0 rfl (by omega)
  have rounds : ∃ R, Ev (fun k => petrinetref45_Iso.f k a0 la1 la2 b0 lb1 lb2) R ∧ ((okE la1 lb1 = true ∧ IsoA a0.toNat la2 lb2 (evX la1 lb1) R) ∨ (okE la1 lb1 ≠ true ∧ R = ([], false))) := by
    rcases rounds_spec a0.toNat hn0 la2 lb2 (evX la1 lb1) hE hAR with ⟨q1, q2⟩ | ⟨img, q1, q2, q3, q4⟩
    · refine ⟨([], false), start _ ?_, ?_⟩
      · have := rIso_l1 a0 la1 la2 b0 lb1 lb2 a0.toNat han (by omega) hlb1 hla hlb vB harc ([], false) a0.toNat (img0 a0.toNat) 0 rfl (by omega) (img0_RI _ hn0).li (fun _ => rfl) (fun img' e => by rw [q1] at e; simp at e)
        exact this
      · by_cases d : okE la1 lb1 = true
        · exact .inl ⟨d, .inr ⟨rfl, fun h h1 _ => q2 h h1⟩⟩
        · exact .inr ⟨d, rfl⟩
    · by_cases d : Inj a0.toNat (fun u => (gI img u).toNat)
      · refine ⟨if okE la1 lb1 = true then (img, true) else ([], false), start _ ?_, ?_⟩
        · have h4 := rIso_l4 a0 la1 la2 b0 lb1 lb2 hlb1 hla1 img _ 0 rfl (by omega)
          rw [List.drop_zero] at h4
          exact rIso_l1 a0 la1 la2 b0 lb1 lb2 a0.toNat han (by omega) hlb1 hla hlb vB harc _ a0.toNat (img0 a0.toNat) 0 rfl (by omega) (img0_RI _ hn0).li (fun e => by rw [q1] at e; simp at e) (fun img' e => by
            rw [q1] at e
            obtain rfl := Option.some.inj e
            exact rIso_l3 a0 la1 la2 b0 lb1 lb2 a0.toNat han (by omega) img q2 q3 _ (fun _ => h4) (fun q => absurd d q) a0.toNat (List.replicate a0.toNat false) 0 rfl (by omega) List.length_replicate (fun t ht => by
              rw [gB_repl]
              exact ⟨fun q => by simp at q, fun ⟨u, hu, _⟩ => by omega⟩) (fun u v hu => by omega))
        · by_cases g : okE la1 lb1 = true
          · rw [if_pos g]; exact .inl ⟨g, .inl ⟨rfl, _, q4, d, img_is q2 (fun u hu => (q3 u hu).1)⟩⟩
          · rw [if_neg g]; exact .inr ⟨g, rfl⟩
      · refine ⟨([], false), start _ ?_, ?_⟩
        · exact rIso_l1 a0 la1 la2 b0 lb1 lb2 a0.toNat han (by omega) hlb1 hla hlb vB harc ([], false) a0.toNat (img0 a0.toNat) 0 rfl (by omega) (img0_RI _ hn0).li (fun _ => rfl) (fun img' e => by
            rw [q1] at e
            obtain rfl := Option.some.inj e
            exact rIso_l3 a0 la1 la2 b0 lb1 lb2 a0.toNat han (by omega) img q2 q3 _ (fun q => absurd q d) (fun _ => rfl) a0.toNat (List.replicate a0.toNat false) 0 rfl (by omega) List.length_replicate (fun t ht => by
              rw [gB_repl]
              exact ⟨fun q => by simp at q, fun ⟨u, hu, _⟩ => by omega⟩) (fun u v hu => by omega))
        · by_cases g : okE la1 lb1 = true
          · refine .inl ⟨g, .inr ⟨rfl, fun h h1 h2 => d (fun u v hu hv e => h2 u v hu hv ?_)⟩⟩
            have := q4.uniq hAR h1
            rw [← this u hu, ← this v hv]
            exact e
          · exact .inr ⟨g, rfl⟩
  obtain ⟨R, hR, hR2⟩ := rounds
  by_cases c8 : okE la1 lb1 = true
  · have hA : IsoA a0.toNat la2 lb2 (evX la1 lb1) R := by
      rcases hR2 with q | q
      · exact q.2
      · exact absurd c8 q.1
    obtain ⟨R', h1, h2⟩ := isoT_spec a0 b0 lb1 a0.toNat la2 lb2 (evX la1 lb1) han hbn hn0 (by omega) hE hAR hlb (la1.map (evI lb1)) (fun x hx => by
      have := harc x hx
      obtain ⟨f1, hf1⟩ := Int.eq_ofNat_of_zero_le this.2.2.2.2.1
      have hl : f1 < la1.length := by omega
      refine ⟨by omega, by rw [List.length_map]; omega, ?_⟩
      have : x.f1.toNat = f1 := by omega
      rw [hf1, rd_get _ f1 (by rw [List.length_map]; exact hl), List.getElem_map]
      unfold evX
      rw [this, getD_get la1 f1 hl])
    have e := hA.uniq hAR h2
    subst e
    refine ⟨R, pre _ ?_, hR, .inl ⟨⟨c1, c3, rA, rB, c5, c6, c7, c8⟩, hA⟩⟩
    simp only [if_pos c5, if_pos c6]
    rw [if_pos ⟨c7, c8⟩] at hev
    refine Ev.bind hev ?_
    simp only [if_true]
    exact h1
  · have e : R = ([], false) := by
      rcases hR2 with q | q
      · exact absurd q.1 c8
      · exact q.2
    subst e
    refine ⟨([], false), pre _ ?_, hR, .inr ⟨fun s => c8 s.ok, rfl⟩⟩
    simp only [if_pos c5, if_pos c6]
    rw [if_neg (fun q : _ ∧ _ => c8 q.2)] at hev
    exact Ev.bind hev (Ev.now _)
end Go.Proofs.Ytcnliampiibpbaa.Plain
