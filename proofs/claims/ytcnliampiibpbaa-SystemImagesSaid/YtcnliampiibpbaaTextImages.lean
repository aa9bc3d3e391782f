/- Plain laws over the printed functions: what each comes to. No condition but the ones written. -/
import Derived.Test.YtcnliampiibpbaaPlainH
import Derived.Test.YtcnliampiibpbaaPAlllSystemImages
namespace Go.Proofs.Ytcnliampiibpbaa.Plain
open Go Go.RowKit Go.Proofs.Ytcnliampiibpbaa.PAll Go.Proofs.YtcnliampiibpbaaW.PrintWords Go.Proofs.YtcnliampiibpbaaW.PrintLast Go.Proofs.YtcnliampiibpbaaW.PrintMore
set_option linter.unusedVariables false
/-! ### Images: the answers of Iso, there and back -/
theorem imgOf_len (n : Nat) (h : Nat → Nat) : (imgOf n h).length = n := by unfold imgOf; rw [List.length_map, List.length_range]
theorem rd_img (n : Nat) (h : Nat → Nat) (u : Nat) (hu : u < n) : rd (imgOf n h) (u : Int) = ((h u : Nat) : Int) := by
  rw [rd_gI _ _ (by rw [imgOf_len]; exact hu), imgOf_get n h u hu]
section
variable (a : Int) (l : List ByteArray) (l2 : List S44) (b : Int) (m : List ByteArray) (m2 : List S44)
theorem alive_some : Ev (fun k => (petrinetlaw45_alive.f k).bind fun t => some t) true := Ev.bind alive_ev (Ev.now _)
theorem img_j10 (x : Bool) (hl2 : l2.length ≤ 1000000) (hm2 : m2.length ≤ 1000000) (h : x = true → l.length ≤ 4 ∧ m.length ≤ 4 ∧ trS b m m2 4 = trS a l l2 4) : Ev (fun k => petrinetlaw45_SystemImages.j10 k x a l l2 b m m2) true := by
  by_cases c : x = true
  · obtain ⟨h1, h2, h3⟩ := h c
    have t1 := (traces_both a l l2 hl2 h1 4).1
    have t2 := (traces_both b m m2 hm2 h2 4).1
    rw [h3] at t2
    obtain ⟨b1, b2⟩ := trS_bd a l l2 4
    refine Ev.step (f := fun k => (system_Traces.f k a l l2 4).bind fun t514 => ((system_Traces.f k b m m2 4).bind fun t517 => ((petrinetref04_Lists.f k t514 t517).bind fun t520 => (if t520 = true then ((petrinetlaw45_alive.f k).bind fun t521 => (some t521)) else (some false))))) (fun k => by rw [petrinetlaw45_SystemImages.j10, if_pos c]) ?_
    refine Ev.bind t1 (Ev.bind t2 ?_)
    refine Ev.bind (lists_ev _ (Nat.le_trans b1 (by decide)) (fun s hs => Nat.le_trans (b2 s hs) (by decide))) ?_
    simp only [if_true]
    exact alive_some
  · exact Ev.step (f := fun k => (petrinetlaw45_alive.f k).bind fun t => some t) (fun k => by rw [petrinetlaw45_SystemImages.j10, if_neg c]) alive_some
theorem img_l4 (hl2 : l2.length ≤ 1000000) (hm2 : m2.length ≤ 1000000) (hl : l.length ≤ 1000) (hlm : l.length = m.length) (htr : l.length ≤ 4 → SameEv l m → trS b m m2 4 = trS a l l2 4) (n : Nat) :
    ∀ (i : Nat) (x : Bool), l.length - i = n → i ≤ l.length → (x = true → l.length ≤ 4 ∧ ∀ (j : Nat) (h1 : j < l.length) (h2 : j < m.length), j < i → dl l[j] = dl m[j]) → Ev (fun k => petrinetlaw45_SystemImages.l4 k x (i : Int) a l l2 b m m2) true := by
  induction n with
  | zero =>
    intro i x hn hi hx
    exact Ev.step (f := fun k => petrinetlaw45_SystemImages.j10 k x a l l2 b m m2) (fun k => by rw [petrinetlaw45_SystemImages.l4, if_neg (by omega)])
      (img_j10 a l l2 b m m2 x hl2 hm2 (fun c => by
        obtain ⟨q1, q2⟩ := hx c
        exact ⟨q1, by omega, htr q1 (fun j h1 h2 => q2 j h1 h2 (by omega))⟩))
  | succ n ih =>
    intro i x hn hi hx
    have h1 : i < l.length := by omega
    have h2 : i < m.length := by omega
    by_cases c : x = true
    · obtain ⟨q1, q2⟩ := hx c
      refine Ev.step (f := fun k => petrinetlaw45_SystemImages.l4 k (l[i].toList == m[i].toList) ((i + 1 : Nat) : Int) a l l2 b m m2) (fun k => by rw [petrinetlaw45_SystemImages.l4, if_pos (by omega), if_pos c, if_pos (by omega), if_pos (by omega), rdOf_get _ l i h1, rdOf_get _ m i h2, wrap_succ i (by omega)]) ?_
      refine ih (i + 1) _ (by omega) (by omega) (fun e => ⟨q1, fun j g1 g2 hj => ?_⟩)
      rcases Nat.lt_or_ge j i with g | g
      · exact q2 j g1 g2 g
      · have : j = i := by omega
        subst this
        have e' := eq_of_beq e
        unfold dl
        rw [Lib.toList_data, Lib.toList_data] at e'
        exact e'
    · refine Ev.step (f := fun k => petrinetlaw45_SystemImages.j10 k x a l l2 b m m2) (fun k => by rw [petrinetlaw45_SystemImages.l4, if_pos (by omega), if_neg c]) (img_j10 a l l2 b m m2 x hl2 hm2 (fun d => absurd d c))
end

section
variable {a : Int} {l : List ByteArray} {l2 : List S44} {b : Int} {m : List ByteArray} {m2 : List S44} {h : Nat → Nat}
theorem img_l3 (s : Suit a l l2 b m m2) (ho : Ho a.toNat l2 m2 (evX l m) h) (hm2 : m2.length ≤ 1000000) (x : S44) (hx : x ∈ l2) (p : Int)
    (nxt : Ev (fun k => petrinetlaw45_SystemImages.l2 k (imgOf a.toNat h) (wrap64 (p + 1)) a l l2 b m m2) true) (n : Nat) :
    ∀ (e : Nat) (q : Bool), m.length - e = n → e ≤ m.length → (q = true ∨ ∃ (j : Nat) (hj : j < m.length) (f : x.f1.toNat < l.length), e ≤ j ∧ dl m[j] = dl l[x.f1.toNat]) →
      Ev (fun k => petrinetlaw45_SystemImages.l3 k (imgOf a.toNat h) p q (e : Int) a l l2 b m m2 x.f0 x.f1 x.f2) true := by
  have hA := va_of s.va.1
  have hB := va_of s.va.2
  have hm := hB.ev
  have ax := hA.arcs x hx
  induction n with
  | zero =>
    intro e q hn he hq
    have hqt : q = true := by
      rcases hq with c | ⟨j, hj, _, hle, _⟩
      · exact c
      · omega
    exact Ev.step (f := fun k => petrinetlaw45_SystemImages.l2 k (imgOf a.toNat h) (wrap64 (p + 1)) a l l2 b m m2) (fun k => by rw [petrinetlaw45_SystemImages.l3, if_neg (by omega), if_pos hqt]) nxt
  | succ n ih =>
    intro e q hn he hq
    have h1 : e < m.length := by omega
    by_cases c : q = true
    · exact Ev.step (f := fun k => petrinetlaw45_SystemImages.l3 k (imgOf a.toNat h) p true ((e + 1 : Nat) : Int) a l l2 b m m2 x.f0 x.f1 x.f2) (fun k => by rw [petrinetlaw45_SystemImages.l3, if_pos (by omega), if_pos c, wrap_succ e (by omega)]) (ih (e + 1) true (by omega) (by omega) (.inl rfl))
    · have hf : x.f1.toNat < l.length := by omega
      have ef1 : x.f1 = ((x.f1.toNat : Nat) : Int) := by omega
      have ef0 : x.f0 = ((x.f0.toNat : Nat) : Int) := by omega
      have ef2 : x.f2 = ((x.f2.toNat : Nat) : Int) := by omega
      have g0 : x.f0.toNat < a.toNat := by omega
      have g2 : x.f2.toNat < a.toNat := by omega
      have r0 : rd (imgOf a.toNat h) x.f0 = ((h x.f0.toNat : Nat) : Int) := by rw [ef0, rd_img _ _ _ g0]; rfl
      have r2 : rd (imgOf a.toNat h) x.f2 = ((h x.f2.toNat : Nat) : Int) := by rw [ef2, rd_img _ _ _ g2]; rfl
      have rl : rdOf ByteArray.empty l x.f1 = l[x.f1.toNat] := (congrArg (rdOf ByteArray.empty l) ef1).trans (rdOf_get _ l _ hf)
      by_cases d : dl m[e] = dl l[x.f1.toNat]
      · have hev : evX l m x = (e : Int) := by rw [evX_is ax.2.2.2.2.1 hf]; exact evI_of_eq hB _ e h1 d.symm
        refine Ev.step (f := fun k => (system_Next.f k b m m2 ((h x.f0.toNat : Nat) : Int) (e : Int)).bind fun t510 => petrinetlaw45_SystemImages.l3 k (imgOf a.toNat h) p (t510 == ((h x.f2.toNat : Nat) : Int)) ((e + 1 : Nat) : Int) a l l2 b m m2 x.f0 x.f1 x.f2) (fun k => ?_) ?_
        · rw [petrinetlaw45_SystemImages.l3, if_pos (by omega), if_neg c, if_pos (by omega), if_pos ax.2.2.2.2.1, if_pos ax.2.2.2.2.2, rdOf_get _ m e h1, rl, if_pos (by rw [Lib.toList_data, Lib.toList_data]; exact d), if_pos ax.1, if_pos (by rw [imgOf_len]; omega), r0, r2, wrap_succ e (by omega)]
          simp only [imgOf_len, if_pos ax.2.2.1, if_pos (show x.f2 < ((a.toNat : Nat) : Int) by omega)]
        · refine Ev.bind (sNext_ev _ _ b m m2 hm2) ?_
          have : nxS b m m2 ((h x.f0.toNat : Nat) : Int) (e : Int) = ((h x.f2.toNat : Nat) : Int) := by
            unfold nxS
            rw [if_pos s.va.2, ← hev]
            exact ho.arc x hx
          rw [this]
          simp only [beq_self_eq_true]
          exact ih (e + 1) true (by omega) (by omega) (.inl rfl)
      · have hq' : ∃ (j : Nat) (hj : j < m.length) (f : x.f1.toNat < l.length), e + 1 ≤ j ∧ dl m[j] = dl l[x.f1.toNat] := by
          rcases hq with c' | ⟨j, hj, f, hle, hd⟩
          · exact absurd c' c
          · refine ⟨j, hj, f, ?_, hd⟩
            rcases Nat.lt_or_ge e j with g | g
            · exact g
            · have : j = e := by omega
              subst this
              exact absurd hd d
        exact Ev.step (f := fun k => petrinetlaw45_SystemImages.l3 k (imgOf a.toNat h) p false ((e + 1 : Nat) : Int) a l l2 b m m2 x.f0 x.f1 x.f2) (fun k => by rw [petrinetlaw45_SystemImages.l3, if_pos (by omega), if_neg c, if_pos (by omega), if_pos ax.2.2.2.2.1, if_pos ax.2.2.2.2.2, rdOf_get _ m e h1, rl, if_neg (by rw [Lib.toList_data, Lib.toList_data]; exact d), wrap_succ e (by omega)]) (ih (e + 1) false (by omega) (by omega) (.inr hq'))
theorem img_l2 (s : Suit a l l2 b m m2) (ho : Ho a.toNat l2 m2 (evX l m) h) (hi : Inj a.toNat h) (hl2 : l2.length ≤ 1000000) (hm2 : m2.length ≤ 1000000) (n : Nat) :
    ∀ i : Nat, l2.length - i = n → i ≤ l2.length → Ev (fun k => petrinetlaw45_SystemImages.l2 k (imgOf a.toNat h) (i : Int) a l l2 b m m2) true := by
  have hA := va_of s.va.1
  have hle := hA.ev
  induction n with
  | zero =>
    intro i hn hi'
    refine Ev.step (f := fun k => petrinetlaw45_SystemImages.l4 k (decide ((l.length : Int) ≤ 4)) 0 a l l2 b m m2) (fun k => by rw [petrinetlaw45_SystemImages.l2, if_neg (by omega)]) ?_
    exact img_l4 a l l2 b m m2 hl2 hm2 (by omega) s.el (fun _ he => trS_same s ho hi he 4) _ 0 _ rfl (Nat.zero_le _) (fun c => ⟨by have := of_decide_eq_true c; omega, fun j _ _ hj => by omega⟩)
  | succ n ih =>
    intro i hn hi'
    have h1 : i < l2.length := by omega
    have hx : l2[i] ∈ l2 := List.getElem_mem h1
    obtain ⟨p, j, hp, hj, e1, e2, e3⟩ := s.ev hx
    refine Ev.step (f := fun k => petrinetlaw45_SystemImages.l3 k (imgOf a.toNat h) (i : Int) false ((0 : Nat) : Int) a l l2 b m m2 l2[i].f0 l2[i].f1 l2[i].f2) (fun k => by rw [petrinetlaw45_SystemImages.l2, if_pos (by omega), if_pos (by omega), rdT_get l2 i h1]; rfl) ?_
    have hpf : l2[i].f1.toNat = p := by omega
    refine img_l3 s ho hm2 l2[i] hx (i : Int) (by rw [wrap_succ i (by omega)]; exact ih (i + 1) (by omega) (by omega)) _ 0 false rfl (Nat.zero_le _) (.inr ⟨j, hj, by omega, Nat.zero_le _, ?_⟩)
    rw [e3]
    congr 2
    exact hpf.symm
end

section
variable {a : Int} {l : List ByteArray} {l2 : List S44} {b : Int} {m : List ByteArray} {m2 : List S44} {h k : Nat → Nat}
theorem img_l1 (n : Nat) (hn : n ≤ 1000000) (hl : ∀ u, u < n → h u < n) (hk : ∀ u, u < n → k (h u) = u) (nxt : Ev (fun f => petrinetlaw45_SystemImages.l2 f (imgOf n h) 0 a l l2 b m m2) true) (c : Nat) :
    ∀ i : Nat, n - i = c → i ≤ n → Ev (fun f => petrinetlaw45_SystemImages.l1 f (imgOf n h) (imgOf n k) (i : Int) a l l2 b m m2) true := by
  induction c with
  | zero =>
    intro i hc hi
    exact Ev.step (f := fun f => petrinetlaw45_SystemImages.l2 f (imgOf n h) 0 a l l2 b m m2) (fun f => by rw [petrinetlaw45_SystemImages.l1, if_neg (by rw [imgOf_len]; omega)]) nxt
  | succ c ih =>
    intro i hc hi
    have h1 : i < n := by omega
    have h2 := hl i h1
    refine Ev.step (f := fun f => petrinetlaw45_SystemImages.l1 f (imgOf n h) (imgOf n k) ((i + 1 : Nat) : Int) a l l2 b m m2) (fun f => ?_) (ih (i + 1) (by omega) (by omega))
    rw [petrinetlaw45_SystemImages.l1, if_pos (by rw [imgOf_len]; omega), if_pos (by omega), rd_img n h i h1, if_neg (by omega), if_neg (by rw [imgOf_len]; omega), if_pos (by omega), if_pos (by rw [imgOf_len]; omega), rd_img n k _ h2, hk i h1, if_pos rfl, wrap_succ i (by omega)]
theorem img_l0 (n : Nat) (hn : n ≤ 1000000) (nxt : Ev (fun f => petrinetlaw45_SystemImages.j4 f a l l2 b m m2) true) (c : Nat) :
    ∀ i : Nat, n - i = c → i ≤ n → Ev (fun f => petrinetlaw45_SystemImages.l0 f (imgOf n id) (i : Int) a l l2 b m m2) true := by
  induction c with
  | zero =>
    intro i hc hi
    exact Ev.step (f := fun f => petrinetlaw45_SystemImages.j4 f a l l2 b m m2) (fun f => by rw [petrinetlaw45_SystemImages.l0, if_neg (by rw [imgOf_len]; omega)]) nxt
  | succ c ih =>
    intro i hc hi
    have h1 : i < n := by omega
    exact Ev.step (f := fun f => petrinetlaw45_SystemImages.l0 f (imgOf n id) ((i + 1 : Nat) : Int) a l l2 b m m2) (fun f => by rw [petrinetlaw45_SystemImages.l0, if_pos (by rw [imgOf_len]; omega), if_pos (by omega), rd_img n id i h1, if_pos (show ((id i : Nat) : Int) = (i : Int) from rfl), wrap_succ i (by omega)]) (ih (i + 1) (by omega) (by omega))
end
section
variable (a : Int) (l : List ByteArray) (l2 : List S44) (b : Int) (m : List ByteArray) (m2 : List S44)
theorem img_j4 (hl2 : l2.length ≤ 1000000) (hm2 : m2.length ≤ 1000000) : Ev (fun k => petrinetlaw45_SystemImages.j4 k a l l2 b m m2) true := by
  obtain ⟨R, r1, _, r3⟩ := iso_both a l l2 b m m2 hl2 hm2
  obtain ⟨Q, q1, _, q3⟩ := iso_both b m m2 a l l2 hm2 hl2
  refine Ev.step (f := fun k => (system_Iso.f k a l l2 b m m2).bind fun bt492 => ((system_Iso.f k b m m2 a l l2).bind fun bt496 => (if (bt492.2 != bt496.2) = true then (some false) else (if bt492.2 = true then (if (bt492.1.length : Int) = a then (petrinetlaw45_SystemImages.j5 k bt492.1 bt496.1 ((bt496.1.length : Int) != a) a l l2 b m m2) else (petrinetlaw45_SystemImages.j5 k bt492.1 bt496.1 true a l l2 b m m2)) else (if (bt492.1.length : Int) = 0 then (if (bt496.1.length : Int) = 0 then ((petrinetlaw45_alive.f k).bind fun t500 => (some t500)) else (some false)) else (some false)))))) (fun k => by rw [petrinetlaw45_SystemImages.j4]) ?_
  refine Ev.bind r1 (Ev.bind q1 ?_)
  have empty : R = ([], false) → Q = ([], false) → Ev (fun k => (if (R.2 != Q.2) = true then (some false) else (if R.2 = true then (if (R.1.length : Int) = a then (petrinetlaw45_SystemImages.j5 k R.1 Q.1 ((Q.1.length : Int) != a) a l l2 b m m2) else (petrinetlaw45_SystemImages.j5 k R.1 Q.1 true a l l2 b m m2)) else (if (R.1.length : Int) = 0 then (if (Q.1.length : Int) = 0 then ((petrinetlaw45_alive.f k).bind fun t500 => (some t500)) else (some false)) else (some false))))) true := by
    intro e1 e2
    subst e1; subst e2
    simp only [bne_self_eq_false, Bool.false_eq_true, if_false, List.length_nil, Int.natCast_zero, if_true]
    exact alive_some
  rcases r3 with ⟨s, r3⟩ | ⟨ns, r3⟩
  · rcases q3 with ⟨s', q3⟩ | ⟨ns', _⟩
    · have hA := va_of s.va.1
      have hB := va_of s.va.2
      have hn := s.n
      have hlo := hA.lo
      have hhi := hA.hi
      rcases r3 with ⟨t1, h, ho, hi, t2⟩ | ⟨t1, t2⟩
      · obtain ⟨ho', hi'⟩ := inv_ho s ho hi
        have hQ : Q = (imgOf b.toNat (invH a.toNat h), true) := IsoA.uniq (allR_of hB s.rb) q3 (.inl ⟨rfl, _, ho', hi', rfl⟩)
        subst hQ
        have hRl : (R.1.length : Int) = a := by rw [t2, imgOf_len]; omega
        have hQl : ((imgOf b.toNat (invH a.toNat h)).length : Int) = a := by rw [imgOf_len]; omega
        simp only [t1, bne_self_eq_false, Bool.false_eq_true, if_false, if_true, if_pos hRl, hQl]
        rw [t2, ← hn]
        refine Ev.step (f := fun k => petrinetlaw45_SystemImages.l1 k (imgOf a.toNat h) (imgOf a.toNat (invH a.toNat h)) ((0 : Nat) : Int) a l l2 b m m2) (fun k => by rw [petrinetlaw45_SystemImages.j5, if_neg (by simp)]; rfl) ?_
        exact img_l1 a.toNat (by omega) ho.lt (fun u hu => invH_l hi u hu) (img_l2 s ho hi hl2 hm2 _ 0 rfl (Nat.zero_le _)) _ 0 rfl (Nat.zero_le _)
      · rcases q3 with ⟨_, h, ho, hi, _⟩ | ⟨u1, _⟩
        · obtain ⟨ho', hi'⟩ := inv_ho s' ho hi
          exact (t2 _ ho' hi').elim
        · exact empty t1 u1
    · exact absurd s.symm ns'
  · rcases q3 with ⟨s', _⟩ | ⟨_, q3⟩
    · exact absurd s'.symm ns
    · exact empty r3 q3
theorem img_j1 (x : Bool) (hl2 : l2.length ≤ 1000000) (hm2 : m2.length ≤ 1000000) (hx : x = true → Suit a l l2 a l l2) : Ev (fun k => petrinetlaw45_SystemImages.j1 k x a l l2 b m m2) true := by
  have j4 := img_j4 a l l2 b m m2 hl2 hm2
  by_cases c : x = true
  · have s := hx c
    have hA := va_of s.va.1
    have hlo := hA.lo
    have hhi := hA.hi
    obtain ⟨ho, hi, _⟩ := self_ho s.da
    obtain ⟨R, r1, _, r3⟩ := iso_both a l l2 a l l2 hl2 hl2
    refine Ev.step (f := fun k => (system_Iso.f k a l l2 a l l2).bind fun bt487 => (if bt487.2 = true then (petrinetlaw45_SystemImages.j2 k bt487.1 ((bt487.1.length : Int) != a) a l l2 b m m2) else (petrinetlaw45_SystemImages.j2 k bt487.1 true a l l2 b m m2))) (fun k => by rw [petrinetlaw45_SystemImages.j1, if_pos c]) ?_
    refine Ev.bind r1 ?_
    rcases r3 with ⟨_, r3⟩ | ⟨ns, _⟩
    · have hR : R = (imgOf a.toNat id, true) := IsoA.uniq (allR_of hA s.ra) r3 (.inl ⟨rfl, _, ho, hi, rfl⟩)
      subst hR
      have hRl : ((imgOf a.toNat id).length : Int) = a := by rw [imgOf_len]; omega
      simp only [if_true, hRl]
      refine Ev.step (f := fun k => petrinetlaw45_SystemImages.l0 k (imgOf a.toNat id) ((0 : Nat) : Int) a l l2 b m m2) (fun k => by rw [petrinetlaw45_SystemImages.j2, if_neg (by simp)]; rfl) ?_
      exact img_l0 a.toNat (by omega) j4 _ 0 rfl (Nat.zero_le _)
    · exact absurd s ns
  · exact Ev.step (f := fun k => petrinetlaw45_SystemImages.j4 k a l l2 b m m2) (fun k => by rw [petrinetlaw45_SystemImages.j1, if_neg c]) j4
theorem images_ev : ∃ k, petrinetlaw45_SystemImages.f k a l l2 b m m2 = some true := by
  refine Ev.rounds (g := fun k => petrinetlaw45_SystemImages.f k a l l2 b m m2) ?_
  have no : Ev (fun k => petrinetlaw45_SystemImages.j0 k true a l l2 b m m2) true := Ev.step (f := fun k => (petrinetlaw45_alive.f k).bind fun t => some t) (fun k => by rw [petrinetlaw45_SystemImages.j0, if_pos rfl]) alive_some
  obtain ⟨x, h1, h2⟩ := few_ev a l l2
  obtain ⟨y, h3, h4⟩ := few_ev b m m2
  unfold petrinetlaw45_SystemImages.f
  refine Ev.bind h1 ?_
  by_cases c : x = true
  · simp only [if_pos c]
    refine Ev.bind h3 ?_
    by_cases d : y = true
    · subst d
      obtain ⟨_, _, q1, _⟩ := h2 c
      obtain ⟨_, _, q2, _⟩ := h4 rfl
      obtain ⟨r, s1, _, s3⟩ := reachable_both a l l2 (by omega)
      refine Ev.step (f := fun k => (petrinetref45_Deterministic.f k a l l2).bind fun t485 => (if t485 = true then ((petrinetref45_Reachable.f k a l l2).bind fun t486 => (petrinetlaw45_SystemImages.j1 k t486 a l l2 b m m2)) else (petrinetlaw45_SystemImages.j1 k false a l l2 b m m2))) (fun k => by rw [petrinetlaw45_SystemImages.j0]; simp) ?_
      obtain ⟨_, _, s2, _⟩ := reachable_both a l l2 (by omega)
      refine Ev.bind (rdet_ev a l l2 (by omega)) ?_
      by_cases e : dtB a l l2 = true
      · simp only [if_pos e]
        obtain ⟨r, _, s2, s3⟩ := reachable_both a l l2 (by omega)
        refine Ev.bind s2 (img_j1 a l l2 b m m2 r (by omega) (by omega) (fun g => ?_))
        have ra := (s3.1 g).2
        exact ⟨e, e, ra, ra, rfl, rfl, rfl, (self_ho e).2.2⟩
      · simp only [if_neg e]
        exact img_j1 a l l2 b m m2 false (by omega) (by omega) (fun g => by cases g)
    · have : y = false := Bool.eq_false_iff.mpr d
      subst this
      exact no
  · simp only [if_neg c]
    exact no
end
theorem SystemImages_pure (a : Int) (_ : (Lit.int .i64 a).wf = true) (l : List ByteArray) (_ : l.length ≤ maxLen) (_ : ∀ z ∈ l, z.size ≤ maxLen) (l2 : List S44) (_ : l2.length ≤ maxLen) (_ : ∀ z ∈ l2, (Lit.int .i64 z.f0).wf = true ∧ (Lit.int .i64 z.f1).wf = true ∧ (Lit.int .i64 z.f2).wf = true)
    (b : Int) (_ : (Lit.int .i64 b).wf = true) (m : List ByteArray) (_ : m.length ≤ maxLen) (_ : ∀ z ∈ m, z.size ≤ maxLen) (m2 : List S44) (_ : m2.length ≤ maxLen) (_ : ∀ z ∈ m2, (Lit.int .i64 z.f0).wf = true ∧ (Lit.int .i64 z.f1).wf = true ∧ (Lit.int .i64 z.f2).wf = true) : ∃ k, petrinetlaw45_SystemImages.f k a l l2 b m m2 = some true :=
  images_ev a l l2 b m m2
end Go.Proofs.Ytcnliampiibpbaa.Plain
