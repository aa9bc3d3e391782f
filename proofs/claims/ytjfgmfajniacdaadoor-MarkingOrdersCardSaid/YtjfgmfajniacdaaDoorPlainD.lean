/- Plain laws over the printed functions: what each comes to. No condition but the ones written. -/
import Derived.Test.YtjfgmfajniacdaaDoorPlainC
namespace Go.Proofs.YtjfgmfajniacdaaDoor.Plain
open Go Go.RowKit Go.Proofs.YtjfgmfajniacdaaDoor.PAll Go.Proofs.YtjfgmfajniacdaaDoorW.PrintWords Go.Proofs.YtjfgmfajniacdaaDoorW.PrintLast Go.Proofs.YtjfgmfajniacdaaDoorW.PrintMore
set_option linter.unusedVariables false
/-! ### marking.Parse -/
def goM : List (List UInt8) → List Int → Option (List Int)
  | [], out => some out
  | p :: ps, out => match Lib.atoiAll p with
    | .ok n => if out.length = 24 then none else goM ps (out ++ [n])
    | _ => none
def finM (s : List UInt8) : Option (List Int) → List Int × Int
  | none => ([], 11)
  | some m => if inB m = true ∧ Num.textOf m = s then (m, 0) else ([], 11)
theorem in_i64 {l : List Int} (h : inB l = true) : AllI l := fun x hx => by have := (inB_iff l).mp h x hx; unfold I64; omega
theorem mparse_end (s : ByteArray) (hs : s.size ≤ 1000000) (out : List Int) (ho : out.length ≤ 24) (k f : Nat) (hk : 100 ≤ k) : marking_Parse.l0 k s out (f : Int) ((s.size + 1 : Nat) : Int) = some (finM s.data.toList (some out)) := by
  obtain ⟨k, rfl⟩ := fuel (show 0 < k by omega)
  simp only [marking_Parse.l0, finM]
  rw [if_neg (by omega), valid_is out _ (by omega) k (by omega), valid_self, Option.bind_some]
  cases e : inB out with
  | false => rw [if_neg (by simp), if_neg (by simp)]
  | true =>
    rw [if_pos rfl, text_is out (by omega) (in_i64 e) k (by omega), Option.bind_some]
    by_cases c : Num.textOf out = s.data.toList
    · rw [if_pos (by rw [toList_eq_iff, mk_data, Lib.toList_data]; exact c), if_pos ⟨rfl, c⟩]
    · rw [if_neg (by rw [toList_eq_iff, mk_data, Lib.toList_data]; exact c), if_neg (fun g => c g.2)]
theorem mparse_j (s : ByteArray) (hs : s.size ≤ 1000000) (out : List Int) (ho : out.length ≤ 24) (k f i : Nat) (hf : f ≤ i) (hi : i ≤ s.size) :
    marking_Parse.j1 (k + 1) s out (f : Int) (i : Int) false = match Lib.atoiAll ((s.data.toList.drop f).take (i - f)) with
      | .ok n => if out.length = 24 then some ([], 11) else marking_Parse.l0 k s (out ++ [n]) ((i + 1 : Nat) : Int) ((i + 1 : Nat) : Int)
      | _ => some ([], 11) := by
  have hsz := size_data s
  simp only [marking_Parse.j1]
  have hsize : (mk ((s.data.toList.drop f).take (i - f))).size ≤ 281474976710656 := by
    rw [mk_size, List.length_take]; omega
  rw [if_neg (by simp), if_pos (by omega), if_pos (by omega), if_pos (by omega), wrap_succ i (by omega), Int.toNat_natCast, Int.toNat_natCast, mk_extract]
  unfold strconv_Atoi.f
  rw [if_pos hsize, mk_data]
  cases e : Lib.atoiAll ((s.data.toList.drop f).take (i - f)) with
  | ok n =>
    simp only [Option.bind_some, Option.isNone_none, if_true]
    by_cases c : out.length = 24
    · rw [if_pos c, if_pos (by omega)]
    · rw [if_neg c, if_neg (by omega), if_pos (by omega)]
  | range => rfl
  | _ => rfl
theorem mparse_l (s : ByteArray) (hs : s.size ≤ 1000000) (n : Nat) : ∀ (k f i : Nat) (out : List Int), s.size - i = n → i ≤ s.size → f ≤ i → out.length ≤ 24 → 2 * n + 200 ≤ k →
    marking_Parse.l0 k s out (f : Int) (i : Int) = some (finM s.data.toList (goM (Num.splitAcc 44 ((s.data.toList.drop f).take (i - f)) (s.data.toList.drop i)) out)) := by
  have hsz := size_data s
  induction n with
  | zero =>
    intro k f i out hn hi hf ho hk
    obtain ⟨k, rfl⟩ : ∃ j, k = j + 2 := ⟨k - 2, by omega⟩
    obtain rfl : i = s.size := by omega
    show marking_Parse.l0 ((k + 1) + 1) s _ _ _ = _
    simp only [marking_Parse.l0]
    rw [if_pos (by omega), if_neg (by omega), mparse_j s hs out ho k f s.size hf (by omega), drop_end s.data.toList s.size (by omega), Num.splitAcc, goM]
    cases Lib.atoiAll ((s.data.toList.drop f).take (s.size - f)) with
    | ok n =>
      dsimp only
      by_cases c : out.length = 24
      · rw [if_pos c, if_pos c]; rfl
      · rw [if_neg c, if_neg c, mparse_end s hs _ (by simp; omega) k _ (by omega)]; rfl
    | range => rfl
    | _ => rfl
  | succ n ih =>
    intro k f i out hn hi hf ho hk
    obtain ⟨k, rfl⟩ : ∃ j, k = j + 2 := ⟨k - 2, by omega⟩
    have hi' : i < s.data.toList.length := by omega
    show marking_Parse.l0 ((k + 1) + 1) s _ _ _ = _
    simp only [marking_Parse.l0]
    rw [if_pos (by omega), if_pos (by omega), if_pos (by omega), bt_get s i hi', drop_cons _ _ hi', Num.splitAcc]
    have h44 : (44 : UInt8).toNat = 44 := rfl
    by_cases e : s.data.toList[i] = 44
    · rw [if_pos e, show (((s.data.toList[i]).toNat : Int) != 44) = false by rw [e]; rfl, mparse_j s hs out ho k f i hf (by omega), goM]
      cases Lib.atoiAll ((s.data.toList.drop f).take (i - f)) with
      | ok n =>
        dsimp only
        by_cases c : out.length = 24
        · rw [if_pos c, if_pos c]; rfl
        · rw [if_neg c, if_neg c, ih k (i + 1) (i + 1) _ (by omega) (by omega) (by omega) (by simp; omega) (by omega), cur_self]
      | range => rfl
      | _ => rfl
    · have hne : (((s.data.toList[i]).toNat : Int) != 44) = true := by
        rw [bne_iff_ne]; intro g; exact e (UInt8.toNat_inj.mp (by omega))
      rw [if_neg e, hne]
      simp only [marking_Parse.j1]
      rw [if_pos trivial, wrap_succ i (by omega), ih k f (i + 1) _ (by omega) (by omega) (by omega) ho (by omega), cur_step _ f i hf hi']
def parseM (s : List UInt8) : List Int × Int := if s = [45] then ([], 0) else finM s (goM (Num.splitB 44 s) [])
theorem mparse_is (s : ByteArray) (hs : s.size ≤ 1000000) (k : Nat) (hk : 2 * s.size + 300 ≤ k) : marking_Parse.f k s = some (parseM s.data.toList) := by
  unfold marking_Parse.f parseM
  by_cases h : s.data.toList = [45]
  · rw [if_pos ((toList_eq_iff s _).mpr h), if_pos h]
  · rw [if_neg (fun g => h ((toList_eq_iff s _).mp g)), if_neg h]
    have := mparse_l s hs _ k 0 0 [] rfl (by omega) (by omega) (by simp) (by omega)
    simpa [Num.splitB] using this
theorem goM_len (ps : List (List UInt8)) : ∀ out m, out.length ≤ 24 → goM ps out = some m → m.length ≤ 24 := by
  induction ps with
  | nil => intro out m h e; simp only [goM, Option.some.injEq] at e; subst e; exact h
  | cons p ps ih =>
    intro out m h e
    rw [goM] at e
    cases c : Lib.atoiAll p with
    | ok n =>
      rw [c] at e; dsimp only at e
      by_cases d : out.length = 24
      · rw [if_pos d] at e; simp at e
      · rw [if_neg d] at e; exact ih _ m (by simp; omega) e
    | range => rw [c] at e; simp at e
    | _ => rw [c] at e; simp at e
theorem goM_map (m : List Int) (hin : ∀ x ∈ m, 0 ≤ x ∧ x ≤ 1048576) : ∀ out : List Int, out.length + m.length ≤ 24 → goM (m.map Lib.itoa) out = some (out ++ m) := by
  induction m with
  | nil => intro out _; simp [goM]
  | cons x m ih =>
    intro out h
    have hx := hin x (List.mem_cons_self ..)
    simp only [List.length_cons] at h
    rw [List.map_cons, goM, Num.atoi_itoa x (by omega) (by omega)]
    dsimp only
    rw [if_neg (by omega), ih (fun y hy => hin y (List.mem_cons_of_mem _ hy)) _ (by simp; omega)]; simp
theorem parseM_spec (s : List UInt8) : Spec (parseM s) s := by
  unfold parseM
  by_cases h : s = [45]
  · rw [if_pos h]; subst h; exact .inl ⟨[], good_nil, rfl⟩
  · rw [if_neg h]
    have hno : ∀ m, Good m s → finM s (goM (Num.splitB 44 s) []) = (m, 0) := by
      intro m hm
      obtain ⟨_, e⟩ := good_split hm h
      have hl := hm.1
      rw [e, goM_map m hm.2.1 [] (by simp; omega), List.nil_append]
      simp only [finM]
      rw [if_pos ⟨(inB_iff m).mpr hm.2.1, hm.2.2⟩]
    cases e : goM (Num.splitB 44 s) [] with
    | none =>
      refine .inr ⟨fun m hm => ?_, rfl⟩
      have := hno m hm; rw [e] at this; simp [finM] at this
    | some m =>
      by_cases c : inB m = true ∧ Num.textOf m = s
      · exact .inl ⟨m, ⟨goM_len _ [] m (by simp) e, (inB_iff m).mp c.1, c.2⟩, by simp only [finM]; rw [if_pos c]⟩
      · refine .inr ⟨fun m' hm => ?_, by simp only [finM]; rw [if_neg c]⟩
        have := hno m' hm; rw [e] at this; simp only [finM] at this; rw [if_neg c] at this; simp at this
theorem parse_both (s : List UInt8) : parseM s = parseRef s := spec_unique (parseM_spec s) (parseRef_spec s)
theorem parseM_good {m : List Int} {s : List UInt8} (h : Good m s) : parseM s = (m, 0) := spec_unique (parseM_spec s) (.inl ⟨m, h, rfl⟩)
theorem parseM_cases (s : List UInt8) : (∃ m, Good m s ∧ parseM s = (m, 0)) ∨ ((∀ m, ¬ Good m s) ∧ parseM s = ([], 11)) := parseM_spec s
theorem itoa1 : Lib.itoa 1 = [49] := by simp [Lib.itoa, Lib.decDigits]
theorem itoa0 : Lib.itoa 0 = [48] := by simp [Lib.itoa, Lib.decDigits]
theorem itoa2 : Lib.itoa 2 = [50] := by simp [Lib.itoa, Lib.decDigits]
theorem text102 : Num.textOf [1, 0, 2] = [49, 44, 48, 44, 50] := by
  rw [Num.textOf_cons (by simp)]
  simp only [List.map_cons, List.map_nil, itoa1, itoa0, itoa2, Num.joinB]; rfl
theorem good102 : Good [1, 0, 2] [49, 44, 48, 44, 50] := ⟨by simp, fun x hx => by simp at hx; omega, text102⟩
theorem split01 : Num.splitB 44 [48, 49] = [[48, 49]] := rfl
theorem bad01 (m : List Int) : ¬ Good m [48, 49] := by
  intro h
  obtain ⟨h1, e⟩ := good_split h (by decide)
  rw [split01] at e
  have hl : m.length = 1 := by have := congrArg List.length e; simpa using this.symm
  obtain ⟨x, rfl⟩ := List.length_eq_one_iff.mp hl
  have hx := h.2.1 x (List.mem_cons_self ..)
  simp only [List.map_cons, List.map_nil, List.cons.injEq, and_true] at e
  have ha := Num.atoi_itoa x (by omega) (by omega)
  rw [← e] at ha
  have hb : Lib.atoiAll [48, 49] = .ok 1 := by decide
  rw [hb] at ha
  have : x = 1 := by injection ha with g; exact g.symm
  subst this
  rw [itoa1] at e; simp at e
theorem parse01 : parseM [48, 49] = ([], 11) := spec_unique (parseM_spec _) (.inr ⟨bad01, rfl⟩)
end Go.Proofs.YtjfgmfajniacdaaDoor.Plain
