/- Images: a program, read. -/
import Derived.Test.YtkkkcafkepnecaaGreatIE
import Derived.Test.YtkkkcafkepnecaaGreatZD
import Derived.Test.YtkkkcafkepnecaaGreatIC
import Derived.Test.YtkkkcafkepnecaaGreatJH

set_option linter.unusedVariables false
set_option linter.unusedSimpArgs false
set_option linter.unnecessarySimpa false
namespace Go.Proofs.YtkkkcafkepnecaaGreat.Im
open Go Go.RowKit Vc Oc Dg
attribute [local irreducible] binV Op.unary convert nlW faW ldS ldW ixS ixA ixV ixT exW lnS lnT pu stW alW opW opU bsW mkW

section
variable {B w : World} {H : Hp} {K : Value → World → Prop} {PK : List PanicEntry → World → Prop}
def andE {α β : Type} : Except Int α → (α → Except Int β) → Except Int β
  | .ok x, f => f x
  | .error e, _ => .error e
theorem andE_ok {α β : Type} (x : α) (f : α → Except Int β) : andE (.ok x) f = f x := rfl
theorem andE_er {α β : Type} (e : Int) (f : α → Except Int β) : andE (.error e) f = .error e := rfl
def num (l : List Nat) (a wd : Nat) : Except Int Nat := if a + wd ≤ l.length then .ok (val ((l.drop a).take wd)) else .error 110
theorem num_ok {l : List Nat} {a wd : Nat} (h : a + wd ≤ l.length) : num l a wd = .ok (val ((l.drop a).take wd)) := if_pos h
theorem num_er {l : List Nat} {a wd : Nat} (h : ¬ (a + wd ≤ l.length)) : num l a wd = .error 110 := if_neg h
def rins (l : List Nat) (a : Nat) : Except Int (Ins × Nat) :=
  if (insR (l.drop a)).2.2 = 0 then .ok ((insR (l.drop a)).1, a + (insR (l.drop a)).2.1) else if (insR (l.drop a)).2.2 = 180 then .error 200 else .error (insR (l.drop a)).2.2
abbrev Out := Except Int (Pr × Nat)
def rcode (l : List Nat) (k : List Ins → Nat → Out) : Nat → Nat → List Ins → Out
  | 0, a, acc => k acc a
  | n + 1, a, acc => andE (rins l a) fun q => rcode l k n q.2 (acc ++ [q.1])
def rfuns (l : List Nat) (k : List Fun → Nat → Out) : Nat → Nat → List Fun → Out
  | 0, a, acc => k acc a
  | n + 1, a, acc => andE (num l a 1) fun r => andE (num l (a + 1) 2) fun m => rcode l (fun c a' => rfuns l k n a' (acc ++ [⟨r, c⟩])) m (a + 1 + 2) []
def rmag (l : List Nat) (k : Nat → Out) : List Nat → Nat → Out
  | [], a => k a
  | c :: cs, a => andE (num l a 1) fun v => if v = c then rmag l k cs (a + 1) else .error 200
def fin (l : List Nat) (mu rw gr : Nat) (fs : List Fun) (a : Nat) : Out := andE (num l a 8) fun s => if s = sum (l.take a) ∧ okP' ⟨fs, mu, rw, gr⟩ = true then .ok (⟨fs, mu, rw, gr⟩, a + 8) else .error 200
def magic : List Nat := [108, 105, 110, 101]
def rbody (l : List Nat) (a : Nat) : Out :=
  andE (num l a 1) fun mu => andE (num l (a + 1) 1) fun rw => andE (num l (a + 1 + 1) 1) fun gr => andE (num l (a + 1 + 1 + 1) 1) fun n => rfuns l (fin l mu rw gr) n (a + 1 + 1 + 1 + 1) []
/-- The program with whose image bytes begin, how many; or an error. -/
def progR (l : List Nat) : Out := rmag l (rbody l) magic 0

theorem ow_tail {Y A R : Hp} (h : Ow B w (Y ++ A ++ R)) : Ow B w (A ++ R) := h.sub (by rw [List.append_assoc]; exact List.sublist_append_right _ _)
abbrev prO (v : Value) (mu rw gr : Nat) : Obj := cel [v, vI mu, vI rw, vI gr] T.t_api_Program
abbrev fnO (r : Nat) (c : Value) : Obj := cel [vI r, c] T.t_api_Func
theorem wrapN {n : Nat} (h : n < 9223372036854775807) : IntKind.i64.wrap ((n : Int) + 1) = ((n + 1 : Nat) : Int) := by rw [wrap64_in (by omega) (by omega)]; rfl
theorem wrapUN {n : Nat} (h : n < 9223372036854775807) : IntKind.u64.wrap ((n : Int) + 1) = ((n + 1 : Nat) : Int) := by rw [wrapu64]; omega
theorem beqN {a b : Nat} : ((a : Int) == (b : Int)) = decide (a = b) := by
  by_cases h : a = b
  · subst h; simp
  · have : ¬ (a : Int) = b := by omega
    simp [h, this]
theorem rprog_spec {A C X : Hp} {b : Nat} {s : Value} {l : List Nat} (hs : Sl X s (bv l)) (hX : ∀ x, x ∈ X → x ∈ A ++ C) (hb : Byt l) (hl : l.length ≤ 1000000) (h : Ow B w (A ++ (b, rO s 0) :: C))
    (k : ∀ F v p n w', progR l = .ok (p, n) → CpP F v p.fs → (∀ f ∈ p.fs, immOk f.code) → Ow B w' (F ++ A ++ (b, rO s n) :: C) → K (.agg (p.cells v).toArray) w')
    (pk : ∀ e a w', progR l = .error e → Ow B w' (A ++ (b, rO s a) :: C) → PK (pan e) w') : callW PG N.image_reader_program [ptr b] K PK w := by
  refine image_reader_program.ok ?_
  unfold image_reader_program.C
  have hl60 : l.length < 2 ^ 60 := by omega
  have hXY : ∀ Y : Hp, ∀ x, x ∈ X → x ∈ Y ++ A ++ C := fun Y x hx => by rw [List.append_assoc]; exact List.mem_append_right _ (hX x hx)
  refine al_rule h (l := [.slice none 0 0, vI 0, vI 0, vI 0]) (by kernel_rfl) (fun b2 w1 h1 => ?_)
  refine begins_spec h1 (fun w2 h2 => ?_)
  refine ⟨fun l' w => ∃ n : Nat, l' = [vI n] ∧ n ≤ 4 ∧ n ≤ l.length ∧ progR l = rmag l (rbody l) (magic.drop n) n ∧ Ow B w ([(b2, prO (.slice none 0 0) 0 0 0)] ++ A ++ (b, rO s n) :: C),
    fun l' _ => match l' with | [.int _ q] => 4 - q.toNat | _ => 0, ⟨0, rfl, by omega, by omega, rfl, h2⟩, ?_⟩
  clear h2 h1 h
  rintro l' w3 ⟨n, rfl, hn, hnl, hP, h3⟩ j
  simp only [gv, List.getD_cons_zero, List.getD_cons_succ]
  repeat (first | refine pu_not ?_ | refine pu_eql ?_ | refine pu_neq ?_ | refine pu_lss ?_ | refine pu_leq ?_ | refine pu_gtr ?_ | refine pu_geq ?_ | refine pu_add ?_ | refine pu_sub ?_ | refine fa_at ?_ | refine nl_ptr ?_ | refine ex20 ?_ | refine ex21 ?_ | refine ex30 ?_ | refine ex31 ?_ | refine ex32 ?_ | refine ln_rule ?_ | refine pu_seq ?_ | refine pu_sne ?_)
  refine cnd (fun hlt => ?_) (fun hlt => ?_)
  · have hlt : n < 4 := by have := of_decide_eq_true hlt; omega
    have hml : n < magic.length := hlt
    have hmv : ([v8 108, v8 105, v8 110, v8 101] : List Value)[(n : Int).toNat]? = some (v8 magic[n]) := by
      have : ([v8 108, v8 105, v8 110, v8 101] : List Value) = magic.map v8 := rfl
      rw [this, Int.toNat_natCast, List.getElem?_map, List.getElem?_eq_getElem hml]; rfl
    rw [List.drop_eq_getElem_cons hml] at hP
    have hc256 : magic[n] < 256 := (by decide : ∀ x ∈ magic, x < 256) _ (List.getElem_mem hml)
    generalize magic[n] = c at hmv hP hc256
    refine ixV_rule (l := [v8 108, v8 105, v8 110, v8 101]) (by omega) (by omega) hmv ?_
    unfold rmag at hP
    refine rbyte_spec (hs) (hXY _) hb hl60 hnl h3 (fun w4 h14 h4 => ?_) (fun w4 h14 h4 => ?_)
    · rw [num_ok h14, andE_ok] at hP
      refine cvt (by kernel_rfl) und_int (m := (c : Int)) (by rw [wrap64_in (by omega) (by omega)]) ?_
      repeat (first | refine pu_not ?_ | refine pu_eql ?_ | refine pu_neq ?_ | refine pu_lss ?_ | refine pu_leq ?_ | refine pu_gtr ?_ | refine pu_geq ?_ | refine pu_add ?_ | refine pu_sub ?_ | refine fa_at ?_ | refine nl_ptr ?_ | refine ex20 ?_ | refine ex21 ?_ | refine ex30 ?_ | refine ex31 ?_ | refine ex32 ?_ | refine ln_rule ?_ | refine pu_seq ?_ | refine pu_sne ?_)
      rw [beqN]
      by_cases hv : val ((l.drop n).take 1) = c
      · rw [decide_eq_true hv]
        refine must_t ?_
        repeat (first | refine pu_not ?_ | refine pu_eql ?_ | refine pu_neq ?_ | refine pu_lss ?_ | refine pu_leq ?_ | refine pu_gtr ?_ | refine pu_geq ?_ | refine pu_add ?_ | refine pu_sub ?_ | refine fa_at ?_ | refine nl_ptr ?_ | refine ex20 ?_ | refine ex21 ?_ | refine ex30 ?_ | refine ex31 ?_ | refine ex32 ?_ | refine ln_rule ?_ | refine pu_seq ?_ | refine pu_sne ?_)
        rw [wrapN (by omega)]
        rw [if_pos hv] at hP
        exact ⟨⟨n + 1, rfl, by omega, h14, hP, h4⟩, by simp; omega⟩
      · rw [decide_eq_false hv]
        rw [if_neg hv] at hP
        exact must_f (pk _ _ _ hP (ow_tail h4))
    · rw [num_er h14, andE_er] at hP
      exact pk _ _ _ hP (ow_tail h4)
  · obtain rfl : n = 4 := by simp at hlt; omega
    have hP : progR l = rbody l 4 := hP
    obtain ⟨a, ha4⟩ : ∃ a : Nat, a = 4 := ⟨4, rfl⟩
    rw [← ha4] at hP hnl h3
    clear hn hlt
    unfold rbody at hP
    refine rbyte_spec hs (hXY _) hb hl60 hnl h3 (fun w3 h14 h3 => ?_) (fun w3 h14 h3 => ?_)
    case' refine_2 =>
      rw [num_er h14, andE_er] at hP
      exact pk _ _ _ hP (ow_tail h3)
    rw [num_ok h14, andE_ok] at hP
    generalize val ((l.drop a).take 1) = mu at hP ⊢
    clear hnl; have hnl := h14; clear h14
    refine rbyte_spec hs (hXY _) hb hl60 hnl h3 (fun w3 h14 h3 => ?_) (fun w3 h14 h3 => ?_)
    case' refine_2 =>
      rw [num_er h14, andE_er] at hP
      exact pk _ _ _ hP (ow_tail h3)
    rw [num_ok h14, andE_ok] at hP
    generalize val ((l.drop (a + 1)).take 1) = rw_ at hP ⊢
    clear hnl; have hnl := h14; clear h14
    refine rbyte_spec hs (hXY _) hb hl60 hnl h3 (fun w3 h14 h3 => ?_) (fun w3 h14 h3 => ?_)
    case' refine_2 =>
      rw [num_er h14, andE_er] at hP
      exact pk _ _ _ hP (ow_tail h3)
    rw [num_ok h14, andE_ok] at hP
    generalize val ((l.drop (a + 1 + 1)).take 1) = gr at hP ⊢
    clear hnl; have hnl := h14; clear h14
    refine pu_build [.slice none 0 0, vI mu, vI rw_, vI gr] (by kernel_rfl) ?_
    refine al_rule h3 (l := [.slice none 0 0, vI 0, vI 0, vI 0]) (by kernel_rfl) (fun b33 w4 h4 => ?_)
    refine st_here (A := []) h4 [.slice none 0 0, vI mu, vI rw_, vI gr] rfl rfl rfl (by simp) (fun w5 h5 => ?_)
    simp only [List.take_zero, List.nil_append, Nat.zero_add, List.drop_succ_cons, List.drop_zero, List.drop_nil, List.append_nil] at h5
    have h3 : Ow B w5 ([(b33, prO (.slice none 0 0) mu rw_ gr), (b2, prO (.slice none 0 0) 0 0 0)] ++ A ++ (b, rO s (a + 1 + 1 + 1)) :: C) := h5
    refine rbyte_spec hs (hXY _) hb hl60 hnl h3 (fun w3 h14 h3 => ?_) (fun w3 h14 h3 => ?_)
    case' refine_2 =>
      rw [num_er h14, andE_er] at hP
      exact pk _ _ _ hP (ow_tail h3)
    rw [num_ok h14, andE_ok] at hP
    have hm256 := val8 hb (a + 1 + 1 + 1)
    generalize val ((l.drop (a + 1 + 1 + 1)).take 1) = many at hP hm256 ⊢
    clear hnl; have hnl := h14; clear h14
    generalize a + 1 + 1 + 1 + 1 = a0 at hP hnl h3
    clear h5 h4
    refine ⟨fun l' w => ∃ (j a : Nat) (es : List CE) (acc : List Fun) (Sf : Hp) (v : Value), l' = [vI j] ∧ j ≤ many ∧ a ≤ l.length ∧ es.map CE.f = acc ∧ acc.length = j ∧ (∀ e ∈ es, e.ok) ∧ (∀ f ∈ acc, immOk f.code) ∧
        Vc.Own Sf T.t_api_Func 2 v (crows es).length (crows es).flatten ∧ progR l = rfuns l (fin l mu rw_ gr) (many - j) a acc ∧
        Ow B w ((Sf ++ (cfoot es ++ [(b33, prO v mu rw_ gr), (b2, prO (.slice none 0 0) 0 0 0)])) ++ A ++ (b, rO s a) :: C),
      fun l' _ => match l' with | [.int _ q] => many - q.toNat | _ => 0, ⟨0, a0, [], [], [], .slice none 0 0, rfl, Nat.zero_le _, hnl, rfl, rfl, by simp, by simp, own_none _ _, hP, h3⟩, ?_⟩
    clear h3 hP hnl
    rintro l' w6 ⟨j, a1, es, acc, Sf, v, rfl, hj, ha1, hes, hacc, hok, himm, hof, hP, h6⟩ jj
    simp only [gv, List.getD_cons_zero, List.getD_cons_succ]
    have hesl : es.length = j := by rw [← hacc, ← hes, List.length_map]
    have hcl : (crows es).length = j := by simp [crows, hesl]
    repeat (first | refine pu_not ?_ | refine pu_eql ?_ | refine pu_neq ?_ | refine pu_lss ?_ | refine pu_leq ?_ | refine pu_gtr ?_ | refine pu_geq ?_ | refine pu_add ?_ | refine pu_sub ?_ | refine fa_at ?_ | refine nl_ptr ?_ | refine ex20 ?_ | refine ex21 ?_ | refine ex30 ?_ | refine ex31 ?_ | refine ex32 ?_ | refine ln_rule ?_ | refine pu_seq ?_ | refine pu_sne ?_)
    refine cnd (fun hlt => ?_) (fun hlt => ?_)
    · have hlt : j < many := by simpa using hlt
      obtain ⟨d, hd⟩ : ∃ d, many - j = d + 1 := ⟨many - j - 1, by omega⟩
      rw [hd] at hP
      unfold rfuns at hP
      refine rbyte_spec hs (hXY _) hb hl60 ha1 h6 (fun w7 h14 h7 => ?_) (fun w7 h14 h7 => ?_)
      case' refine_2 =>
        rw [num_er h14, andE_er] at hP
        exact pk _ _ _ hP (ow_tail h7)
      rw [num_ok h14, andE_ok] at hP
      generalize val ((l.drop a1).take 1) = r at hP ⊢
      refine pu_build [vI r, .slice none 0 0] (by kernel_rfl) ?_
      refine al_rule h7 (l := [vI 0, .slice none 0 0]) (by kernel_rfl) (fun b52 w8 h8 => ?_)
      refine st_here (A := []) h8 [vI r, .slice none 0 0] rfl rfl rfl (by simp) (fun w9 h9 => ?_)
      simp only [List.take_zero, List.nil_append, Nat.zero_add, List.drop_succ_cons, List.drop_zero, List.drop_nil, List.append_nil] at h9
      have h9 : Ow B w9 (((b52, fnO r (.slice none 0 0)) :: (Sf ++ (cfoot es ++ [(b33, prO v mu rw_ gr), (b2, prO (.slice none 0 0) 0 0 0)]))) ++ A ++ (b, rO s (a1 + 1)) :: C) := h9
      refine rnum_spec (wd := 2) hs (hXY _) hb hl60 h14 rfl h9 (fun w10 h24 h10 => ?_) (fun w10 h24 h10 => ?_)
      case' refine_2 =>
        rw [num_er h24, andE_er] at hP
        exact pk _ _ _ hP (ow_tail h10)
      rw [num_ok h24, andE_ok] at hP
      have hm16 : val ((l.drop (a1 + 1)).take 2) < 4294967296 := val_small hb (by omega) _
      generalize val ((l.drop (a1 + 1)).take 2) = m at hP hm16 ⊢
      generalize a1 + 1 + 2 = a2 at hP h24 h10
      refine ⟨fun l' w => ∃ (i a' : Nat) (code : List Ins) (Sc : Hp) (c : Value), l' = [.int .u64 i] ∧ i ≤ m ∧ a' ≤ l.length ∧ i ≤ a' ∧ code.length = i ∧ immOk code ∧
          Vc.Own Sc T.t_api_Ins 5 c (icode code).length (icode code).flatten ∧ progR l = rcode l (fun c a' => rfuns l (fin l mu rw_ gr) d a' (acc ++ [⟨r, c⟩])) (m - i) a' code ∧
          Ow B w ((Sc ++ ((b52, fnO r c) :: (Sf ++ (cfoot es ++ [(b33, prO v mu rw_ gr), (b2, prO (.slice none 0 0) 0 0 0)])))) ++ A ++ (b, rO s a') :: C),
        fun l' _ => match l' with | [.int _ q] => m - q.toNat | _ => 0, ⟨0, a2, [], [], .slice none 0 0, rfl, Nat.zero_le _, h24, Nat.zero_le _, rfl, by simp [immOk], own_none _ _, hP, h10⟩, ?_⟩
      clear h10 h9 h8 h7 h6 hP h24 h14
      rintro l' w11 ⟨i, a', code, Sc, c, rfl, hi, ha', hia, hcode, hic, hoc, hP, h11⟩ jj
      simp only [gv, List.getD_cons_zero, List.getD_cons_succ]
      repeat (first | refine pu_not ?_ | refine pu_eql ?_ | refine pu_neq ?_ | refine pu_lss ?_ | refine pu_leq ?_ | refine pu_gtr ?_ | refine pu_geq ?_ | refine pu_add ?_ | refine pu_sub ?_ | refine fa_at ?_ | refine nl_ptr ?_ | refine ex20 ?_ | refine ex21 ?_ | refine ex30 ?_ | refine ex31 ?_ | refine ex32 ?_ | refine ln_rule ?_ | refine pu_seq ?_ | refine pu_sne ?_)
      refine cnd (fun hlt2 => ?_) (fun hlt2 => ?_)
      · have hlt2 : i < m := by simpa using hlt2
        obtain ⟨d2, hd2⟩ : ∃ d2, m - i = d2 + 1 := ⟨m - i - 1, by omega⟩
        rw [hd2] at hP
        unfold rcode at hP
        have hsub : ∀ (Z Y R : Hp) (w : World), Ow B w ((Z ++ ((b52, fnO r c) :: Y)) ++ A ++ R) → Ow B w [(b52, fnO r c)] := fun Z Y R w h => h.sub (by
          rw [List.append_assoc, List.append_assoc]
          exact (List.Sublist.cons_cons _ (List.nil_sublist _)).trans (List.sublist_append_right _ _))
        refine ⟨fun w => Ow B w [(b52, fnO r c)], hsub _ _ _ _ h11.drew, ?_⟩
        repeat (first | refine pu_not ?_ | refine pu_eql ?_ | refine pu_neq ?_ | refine pu_lss ?_ | refine pu_leq ?_ | refine pu_gtr ?_ | refine pu_geq ?_ | refine pu_add ?_ | refine pu_sub ?_ | refine fa_at ?_ | refine nl_ptr ?_ | refine ex20 ?_ | refine ex21 ?_ | refine ex30 ?_ | refine ex31 ?_ | refine ex32 ?_ | refine ln_rule ?_ | refine pu_seq ?_ | refine pu_sne ?_)
        refine lds_here (fun w h => h) (.head _) (v := c) rfl ?_
        refine rins_spec hs (hXY _) hb hl60 ha' h11.drew (fun w12 h0 h12 => ?_) (fun w12 e he h12 => ?_)
        · have hR : rins l a' = .ok ((insR (l.drop a')).1, a' + (insR (l.drop a')).2.1) := by unfold rins; rw [if_pos h0]
          rw [hR, andE_ok] at hP
          have him := insR_imm (byt_drop hb a')
          have hca : 1 ≤ (insR (l.drop a')).2.1 ∧ (insR (l.drop a')).2.1 ≤ l.length - a' := by
            rcases insR_cases (l.drop a') with ⟨_, _, h3, h4⟩ | h4 | h4
            · rw [List.length_drop] at h4; exact ⟨h3, h4⟩
            · rw [h4] at h0; simp at h0
            · rw [h4] at h0; simp at h0
          generalize (insR (l.drop a')).1 = x at hP him ⊢
          generalize (insR (l.drop a')).2.1 = mm at hP hca h12
          simp only at hP
          refine ⟨hsub _ _ _ _ h12, ?_⟩
          refine bs_rule h12 x.cells (by kernel_rfl) (fun b72 w13 h13 => ?_)
          refine ⟨hsub (_ :: _) _ _ _ h13, ?_⟩
          obtain ⟨ii, i1, i2, i3, i4⟩ := info_of info_ins
          have h13 : Ow B w13 ([(b72, cel x.cells T.t_api_Ins)] ++ Sc ++ ((b52, fnO r c) :: (Sf ++ (cfoot es ++ [(b33, prO v mu rw_ gr), (b2, prO (.slice none 0 0) 0 0 0)])) ++ A ++ (b, rO s (a' + mm)) :: C)) := by simpa using h13
          have hil : (icode code).length = i := by simp [icode, hcode]
          refine app_rule (m := 1) h13 hoc (src_here (b := b72) (l := x.cells) (e := T.t_api_Ins) (len := 1) (size := 5) (.head _) rfl) (fun y hy => hy) (ins_plain _) und_slins i1 i2 i3 i4 rfl (by omega) (by rw [hil]; simp only [maxLen]; omega) (by rw [hil]; omega) (fun S' v' w14 h14 ho' => ?_)
          obtain ⟨q1, q2, hq⟩ := ho'.len
          repeat (first | refine pu_not ?_ | refine pu_eql ?_ | refine pu_neq ?_ | refine pu_lss ?_ | refine pu_leq ?_ | refine pu_gtr ?_ | refine pu_geq ?_ | refine pu_add ?_ | refine pu_sub ?_ | refine fa_at ?_ | refine nl_ptr ?_ | refine ex20 ?_ | refine ex21 ?_ | refine ex30 ?_ | refine ex31 ?_ | refine ex32 ?_ | refine ln_rule ?_ | refine pu_seq ?_ | refine pu_sne ?_)
          have h14 : Ow B w14 (([(b72, cel x.cells T.t_api_Ins)] ++ S') ++ (b52, fnO r c) :: ((Sf ++ (cfoot es ++ [(b33, prO v mu rw_ gr), (b2, prO (.slice none 0 0) 0 0 0)])) ++ A ++ (b, rO s (a' + mm)) :: C)) := by simpa using h14
          refine st1_here h14 (by rw [hq]; rfl) (by rw [hq]; rfl) (by simp) (fun w15 h15 => ?_)
          have h15 : Ow B w15 (([(b72, cel x.cells T.t_api_Ins)] ++ S') ++ (b52, fnO r v') :: ((Sf ++ (cfoot es ++ [(b33, prO v mu rw_ gr), (b2, prO (.slice none 0 0) 0 0 0)])) ++ A ++ (b, rO s (a' + mm)) :: C)) := h15
          repeat (first | refine pu_not ?_ | refine pu_eql ?_ | refine pu_neq ?_ | refine pu_lss ?_ | refine pu_leq ?_ | refine pu_gtr ?_ | refine pu_geq ?_ | refine pu_add ?_ | refine pu_sub ?_ | refine fa_at ?_ | refine nl_ptr ?_ | refine ex20 ?_ | refine ex21 ?_ | refine ex30 ?_ | refine ex31 ?_ | refine ex32 ?_ | refine ln_rule ?_ | refine pu_seq ?_ | refine pu_sne ?_)
          rw [wrapUN (by omega)]
          refine ⟨⟨i + 1, a' + mm, code ++ [x], S', v', rfl, hlt2, by omega, by omega, by simp [hcode], ?_, ?_, ?_, ?_⟩, by simp; omega⟩
          · intro y hy
            rcases List.mem_append.1 hy with hy | hy
            · exact hic y hy
            · rw [List.mem_singleton.1 hy]; exact him
          · have e1 : (icode (code ++ [x])).length = (icode code).length + 1 := by simp [icode]
            have e2 : (icode (code ++ [x])).flatten = (icode code).flatten ++ x.cells := by simp [icode]
            rw [e1, e2]; exact ho'
          · have : m - (i + 1) = d2 := by omega
            rw [this]; exact hP
          · have := Ow.drop (p := (b72, cel x.cells T.t_api_Ins)) (by simpa using h15)
            simpa using this
        · intro s'
          have hR : rins l a' = .error e := by
            unfold rins
            rcases he with ⟨h0, rfl⟩ | ⟨h0, rfl⟩ <;> rw [h0] <;> rfl
          rw [hR, andE_er] at hP
          exact pk _ _ _ hP (ow_tail h12)
      · obtain rfl : i = m := by simp at hlt2; omega
        rw [Nat.sub_self] at hP
        unfold rcode at hP
        obtain ⟨q1, q2, hq⟩ := hoc.len
        obtain ⟨g1, g2, hg⟩ := hof.len
        repeat (first | refine pu_not ?_ | refine pu_eql ?_ | refine pu_neq ?_ | refine pu_lss ?_ | refine pu_leq ?_ | refine pu_gtr ?_ | refine pu_geq ?_ | refine pu_add ?_ | refine pu_sub ?_ | refine fa_at ?_ | refine nl_ptr ?_ | refine ex20 ?_ | refine ex21 ?_ | refine ex30 ?_ | refine ex31 ?_ | refine ex32 ?_ | refine ln_rule ?_ | refine pu_seq ?_ | refine pu_sne ?_)
        refine ld_here h11 (List.mem_append_left _ (List.mem_append_left _ (List.mem_append_right _ (.tail _ (List.mem_append_right _ (List.mem_append_right _ (.head _))))))) (v := v) rfl ?_
        refine ldn_here h11 (List.mem_append_left _ (List.mem_append_left _ (List.mem_append_right _ (.head _)))) (vs := [vI r, c]) rfl rfl ?_
        refine bs_rule h11 [vI r, c] (by rw [hq]; kernel_rfl) (fun b83 w12 h12 => ?_)
        obtain ⟨ii, i1, i2, i3, i4⟩ := info_of info_func
        have h12 : Ow B w12 (((b83, cel [vI r, c] T.t_api_Func) :: (Sc ++ [(b52, fnO r c)])) ++ Sf ++ (cfoot es ++ [(b33, prO v mu rw_ gr), (b2, prO (.slice none 0 0) 0 0 0)] ++ A ++ (b, rO s a') :: C)) := by simpa using h12
        refine app_rule (m := 1) h12 hof (src_here (b := b83) (l := [vI r, c]) (e := T.t_api_Func) (len := 1) (size := 2) (.head _) rfl) (fun y hy => hy) (by rw [hq]; rfl) und_slfunc i1 i2 i3 i4 rfl (by omega) (by rw [hcl]; simp only [maxLen]; omega) (by rw [hcl]; omega) (fun S' v' w13 h13 ho' => ?_)
        obtain ⟨p1, p2, hp⟩ := ho'.len
        repeat (first | refine pu_not ?_ | refine pu_eql ?_ | refine pu_neq ?_ | refine pu_lss ?_ | refine pu_leq ?_ | refine pu_gtr ?_ | refine pu_geq ?_ | refine pu_add ?_ | refine pu_sub ?_ | refine fa_at ?_ | refine nl_ptr ?_ | refine ex20 ?_ | refine ex21 ?_ | refine ex30 ?_ | refine ex31 ?_ | refine ex32 ?_ | refine ln_rule ?_ | refine pu_seq ?_ | refine pu_sne ?_)
        have h13 : Ow B w13 (((b83, cel [vI r, c] T.t_api_Func) :: (Sc ++ ([(b52, fnO r c)] ++ (S' ++ cfoot es)))) ++ (b33, prO v mu rw_ gr) :: ([(b2, prO (.slice none 0 0) 0 0 0)] ++ A ++ (b, rO s a') :: C)) := by simpa using h13
        refine st1_here h13 (by rw [hp]; rfl) (by rw [hp]; rfl) (by simp) (fun w14 h14 => ?_)
        have h14 : Ow B w14 (((b83, cel [vI r, c] T.t_api_Func) :: (Sc ++ ([(b52, fnO r c)] ++ (S' ++ cfoot es)))) ++ (b33, prO v' mu rw_ gr) :: ([(b2, prO (.slice none 0 0) 0 0 0)] ++ A ++ (b, rO s a') :: C)) := h14
        repeat (first | refine pu_not ?_ | refine pu_eql ?_ | refine pu_neq ?_ | refine pu_lss ?_ | refine pu_leq ?_ | refine pu_gtr ?_ | refine pu_geq ?_ | refine pu_add ?_ | refine pu_sub ?_ | refine fa_at ?_ | refine nl_ptr ?_ | refine ex20 ?_ | refine ex21 ?_ | refine ex30 ?_ | refine ex31 ?_ | refine ex32 ?_ | refine ln_rule ?_ | refine pu_seq ?_ | refine pu_sne ?_)
        rw [wrapN (by omega)]
        refine ⟨⟨j + 1, a', es ++ [⟨Sc, c, ⟨r, code⟩⟩], acc ++ [⟨r, code⟩], S', v', rfl, hlt, ha', by rw [List.map_append, hes]; rfl, by simp [hacc], ?_, ?_, ?_, ?_, ?_⟩, by simp; omega⟩
        · intro e he
          rcases List.mem_append.1 he with he | he
          · exact hok e he
          · rw [List.mem_singleton.1 he]; exact hoc
        · intro e he
          rcases List.mem_append.1 he with he | he
          · exact himm e he
          · rw [List.mem_singleton.1 he]; exact hic
        · have e1 : (crows (es ++ [⟨Sc, c, ⟨r, code⟩⟩])).length = (crows es).length + 1 := by simp [crows]
          have e2 : (crows (es ++ [⟨Sc, c, ⟨r, code⟩⟩])).flatten = (crows es).flatten ++ [vI r, c] := by simp [crows, crow]
          rw [e1, e2]; exact ho'
        · have : many - (j + 1) = d := by omega
          rw [this]; exact hP
        · have hcf : cfoot (es ++ [⟨Sc, c, ⟨r, code⟩⟩]) = cfoot es ++ Sc := by simp [cfoot]
          rw [hcf]
          have h15 : Ow B w14 (Sc ++ ((S' ++ cfoot es) ++ ((b33, prO v' mu rw_ gr) :: (b2, prO (.slice none 0 0) 0 0 0) :: (A ++ (b, rO s a') :: C)))) := h14.sub (by
            have : (Sc ++ ((S' ++ cfoot es) ++ ((b33, prO v' mu rw_ gr) :: (b2, prO (.slice none 0 0) 0 0 0) :: (A ++ (b, rO s a') :: C)))).Sublist ((b83, cel [vI r, c] T.t_api_Func) :: (Sc ++ ((b52, fnO r c) :: ((S' ++ cfoot es) ++ ((b33, prO v' mu rw_ gr) :: (b2, prO (.slice none 0 0) 0 0 0) :: (A ++ (b, rO s a') :: C)))))) :=
              .cons _ ((List.Sublist.refl Sc).append (.cons _ (.refl _)))
            simpa using this)
          have h16 := h15.perm (List.perm_append_comm_assoc Sc (S' ++ cfoot es) _)
          simpa using h16
    · obtain rfl : j = many := by simp at hlt; omega
      rw [Nat.sub_self] at hP
      unfold rfuns at hP
      unfold fin at hP
      repeat (first | refine pu_not ?_ | refine pu_eql ?_ | refine pu_neq ?_ | refine pu_lss ?_ | refine pu_leq ?_ | refine pu_gtr ?_ | refine pu_geq ?_ | refine pu_add ?_ | refine pu_sub ?_ | refine fa_at ?_ | refine nl_ptr ?_ | refine ex20 ?_ | refine ex21 ?_ | refine ex30 ?_ | refine ex31 ?_ | refine ex32 ?_ | refine ln_rule ?_ | refine pu_seq ?_ | refine pu_sne ?_)
      refine ld_here h6 (List.mem_append_right _ (.head _)) (v := vI a1) rfl ?_
      refine rnum_spec (wd := 8) hs (hXY _) hb hl60 ha1 rfl h6 (fun w7 h14 h7 => ?_) (fun w7 h14 h7 => ?_)
      case' refine_2 =>
        rw [num_er h14, andE_er] at hP
        exact pk _ _ _ hP (ow_tail h7)
      rw [num_ok h14, andE_ok] at hP
      generalize val ((l.drop a1).take 8) = sm at hP ⊢
      obtain ⟨g1, g2, hg⟩ := hof.len
      repeat (first | refine pu_not ?_ | refine pu_eql ?_ | refine pu_neq ?_ | refine pu_lss ?_ | refine pu_leq ?_ | refine pu_gtr ?_ | refine pu_geq ?_ | refine pu_add ?_ | refine pu_sub ?_ | refine fa_at ?_ | refine nl_ptr ?_ | refine ex20 ?_ | refine ex21 ?_ | refine ex30 ?_ | refine ex31 ?_ | refine ex32 ?_ | refine ln_rule ?_ | refine pu_seq ?_ | refine pu_sne ?_)
      refine ld_here h7 (List.mem_append_right _ (.head _)) (v := s) rfl ?_
      refine cutH hs (by omega) (by simp; omega) (fun cc hcc => ?_)
      have hs' : Sl ((Sf ++ (cfoot es ++ [(b33, prO v mu rw_ gr), (b2, prO (.slice none 0 0) 0 0 0)])) ++ A ++ (b, rO s (a1 + 8)) :: C) s (bv l) := hs.mono fun x hx => (List.mem_append.1 (hXY _ x hx)).elim (fun h => List.mem_append_left _ h) (fun h => List.mem_append_right _ (.tail _ h))
      have hcut := sl_cut (l := 0) (h := a1) (m := cc) hs' (by omega) (by simp; omega) (by omega)
      rw [List.drop_zero, ← List.map_take] at hcut
      rw [Int.toNat_natCast]
      generalize hcv : cut s 0 a1 cc = cv at hcut ⊢
      refine bs_rule h7 [cv] (bsw1 hcut) (fun b103 w8 h8 => ?_)
      refine dof_spec (ls := [l.take a1]) h8 ⟨[cv], sl_here (l := [cv]) (.head _), ⟨hcut.mono fun x hx => .tail _ hx, byt_take hb _⟩, trivial⟩ (fun y hy => hy) (by simp; omega) (by simp) (fun w9 h9 => ?_)
      have hfl : [l.take a1].flatten = l.take a1 := by simp
      rw [hfl]
      repeat (first | refine pu_not ?_ | refine pu_eql ?_ | refine pu_neq ?_ | refine pu_lss ?_ | refine pu_leq ?_ | refine pu_gtr ?_ | refine pu_geq ?_ | refine pu_add ?_ | refine pu_sub ?_ | refine fa_at ?_ | refine nl_ptr ?_ | refine ex20 ?_ | refine ex21 ?_ | refine ex30 ?_ | refine ex31 ?_ | refine ex32 ?_ | refine ln_rule ?_ | refine pu_seq ?_ | refine pu_sne ?_)
      rw [beqN]
      have hF : CpP (Sf ++ cfoot es) v acc := ⟨Sf, es, hes, hok, hof, rfl⟩
      have h9 : Ow B w9 ((b103, cel [cv] T.t_sl_uint8) :: ((Sf ++ (cfoot es ++ [(b33, prO v mu rw_ gr), (b2, prO (.slice none 0 0) 0 0 0)])) ++ A ++ (b, rO s (a1 + 8)) :: C)) := h9
      have m33 : (b33, prO v mu rw_ gr) ∈ ((b103, cel [cv] T.t_sl_uint8) :: ((Sf ++ (cfoot es ++ [(b33, prO v mu rw_ gr), (b2, prO (.slice none 0 0) 0 0 0)])) ++ A ++ (b, rO s (a1 + 8)) :: C)) :=
        .tail _ (List.mem_append_left _ (List.mem_append_left _ (List.mem_append_right _ (List.mem_append_right _ (.head _)))))
      refine cnd (fun hq => ?_) (fun hq => ?_)
      · have hq : sm = sum (l.take a1) := by simpa using hq
        refine ldn_here h9 m33 (vs := Pr.cells ⟨acc, mu, rw_, gr⟩ v) rfl rfl ?_
        refine check_spec (p := ⟨acc, mu, rw_, gr⟩) (X := (b103, cel [cv] T.t_sl_uint8) :: ((Sf ++ (cfoot es ++ [(b33, prO v mu rw_ gr), (b2, prO (.slice none 0 0) 0 0 0)])) ++ A ++ (b, rO s (a1 + 8)) :: C))
          ((hF.ins himm).mono fun x hx => .tail _ (List.mem_append_left _ (List.mem_append_left _ ((List.mem_append.1 hx).elim (fun h => List.mem_append_left _ h) (fun h => List.mem_append_right _ (List.mem_append_left _ h)))))) (fun x hx => hx) (by rw [hacc]; omega) h9 (fun w10 h10 => ?_)
        by_cases hk : okP' ⟨acc, mu, rw_, gr⟩ = true
        · rw [if_pos hk]
          rw [if_pos ⟨hq, hk⟩] at hP
          repeat (first | refine pu_not ?_ | refine pu_eql ?_ | refine pu_neq ?_ | refine pu_lss ?_ | refine pu_leq ?_ | refine pu_gtr ?_ | refine pu_geq ?_ | refine pu_add ?_ | refine pu_sub ?_ | refine fa_at ?_ | refine nl_ptr ?_ | refine ex20 ?_ | refine ex21 ?_ | refine ex30 ?_ | refine ex31 ?_ | refine ex32 ?_ | refine ln_rule ?_ | refine pu_seq ?_ | refine pu_sne ?_)
          refine must_t ?_
          refine ldn_here h10 m33 (vs := Pr.cells ⟨acc, mu, rw_, gr⟩ v) rfl rfl ?_
          have h10 : Ow B w10 (((b103, cel [cv] T.t_sl_uint8) :: (Sf ++ (cfoot es ++ [(b33, prO v mu rw_ gr)]))) ++ (b2, prO (.slice none 0 0) 0 0 0) :: (A ++ (b, rO s (a1 + 8)) :: C)) := by simpa using h10
          refine st_here h10 (Pr.cells ⟨acc, mu, rw_, gr⟩ v) rfl rfl (by rw [hg]; rfl) (by simp) (fun w11 h11 => ?_)
          simp only [List.take_zero, List.nil_append, Nat.zero_add, List.drop_succ_cons, List.drop_zero, List.drop_nil, List.append_nil] at h11
          refine ldn_here h11 (List.mem_append_right _ (.head _)) (vs := Pr.cells ⟨acc, mu, rw_, gr⟩ v) rfl rfl ?_
          refine k (Sf ++ cfoot es) v ⟨acc, mu, rw_, gr⟩ (a1 + 8) _ hP hF himm (h11.sub ?_)
          have : ((Sf ++ cfoot es) ++ (A ++ (b, rO s (a1 + 8)) :: C)).Sublist ((b103, cel [cv] T.t_sl_uint8) :: ((Sf ++ cfoot es) ++ ((b33, prO v mu rw_ gr) :: (b2, cel (Pr.cells ⟨acc, mu, rw_, gr⟩ v) T.t_api_Program) :: (A ++ (b, rO s (a1 + 8)) :: C)))) :=
            .cons _ ((List.Sublist.refl _).append (.cons _ (.cons _ (.refl _))))
          simpa using this
        · rw [if_neg hk]
          rw [if_neg (fun hh => hk hh.2)] at hP
          repeat (first | refine pu_not ?_ | refine pu_eql ?_ | refine pu_neq ?_ | refine pu_lss ?_ | refine pu_leq ?_ | refine pu_gtr ?_ | refine pu_geq ?_ | refine pu_add ?_ | refine pu_sub ?_ | refine fa_at ?_ | refine nl_ptr ?_ | refine ex20 ?_ | refine ex21 ?_ | refine ex30 ?_ | refine ex31 ?_ | refine ex32 ?_ | refine ln_rule ?_ | refine pu_seq ?_ | refine pu_sne ?_)
          exact must_f (pk _ _ _ hP (ow_tail h10.drop))
      · have hq : ¬ sm = sum (l.take a1) := by simpa using hq
        rw [if_neg (fun hh => hq hh.1)] at hP
        exact must_f (pk _ _ _ hP (ow_tail h9.drop))
end
end Go.Proofs.YtkkkcafkepnecaaGreat.Im

