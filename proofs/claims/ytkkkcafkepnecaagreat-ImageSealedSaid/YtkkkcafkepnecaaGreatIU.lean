/- Images: the document's reading of a program. -/
import Derived.Test.YtkkkcafkepnecaaGreatIT

set_option linter.unusedVariables false
set_option linter.unusedSimpArgs false
set_option linter.unnecessarySimpa false
namespace Go.Proofs.YtkkkcafkepnecaaGreat.Im
open Go Go.RowKit Vc Oc Dg
attribute [local irreducible] binV Op.unary convert nlW faW ldS ldW ixS ixA ixV ixT exW lnS lnT pu stW alW opW opU bsW mkW

section
variable {B w : World} {H C X Y : Hp} {K KW : Value → World → Prop} {KK : Value → Prop} {PK : List PanicEntry → World → Prop} {s : Value} {l : List Nat} {a : Nat} {e : Int}
/-- What is still to be read; or an error. -/
def St (l : List Nat) (a : Nat) (e : Int) (F : Nat → Out) : Prop := (e = 0 ∧ progR l = F a) ∨ (e ≠ 0 ∧ progR l = .error e)
theorem st_num {wd : Nat} {F' : Nat → Nat → Out} (h : St l a e (fun a => andE (num l a wd) fun v => F' v (a + wd))) : St l (rnN l wd a e).1 (rnN l wd a e).2.1 (F' (rnN l wd a e).2.2) := by
  rcases h with ⟨rfl, h⟩ | ⟨he, h⟩
  · unfold rnN
    rw [if_neg (by simp)]
    by_cases hl : a + wd ≤ l.length
    · rw [if_pos hl]
      have h : progR l = andE (num l a wd) fun v => F' v (a + wd) := h
      rw [num_ok hl, andE_ok] at h
      exact .inl ⟨rfl, h⟩
    · rw [if_neg hl]
      have h : progR l = andE (num l a wd) fun v => F' v (a + wd) := h
      rw [num_er hl, andE_er] at h
      exact .inr ⟨by show (110 : Int) ≠ 0; decide, h⟩
  · unfold rnN
    rw [if_pos he]
    exact .inr ⟨he, h⟩
theorem rnN_le {wd : Nat} (ha : a ≤ l.length) : (rnN l wd a e).1 ≤ l.length := by
  unfold rnN
  split
  · exact ha
  · split
    · assumption
    · exact ha
theorem rnum_step {b2 wd : Nat} {F' : Nat → Nat → Out} (hs : Sl X s (bv l)) (hX : ∀ y, y ∈ X → y ∈ H) (hb : Byt l) (hl : l.length < 2 ^ 60) (ha : a ≤ l.length) (hw : right wd = true) (hw4 : wd ≤ 2) (h : Ow B w (Y ++ (b2, rdO s a e) :: H))
    (hS : St l a e (fun a => andE (num l a wd) fun v => F' v (a + wd)))
    (k : ∀ a' e' v' w', St l a' e' (F' v') → a' ≤ l.length → v' < 256 ^ wd → Ow B w' (Y ++ (b2, rdO s a' e') :: H) → KW (vI (v' : Nat)) w') :
    ldW (some 3) (ptr b2) w fun t23 => callW PG N.linesmanref10_Reader_number [t23, vI wd] (fun t24 w25 => exW 0 t24 fun t26 => exW 1 t24 fun t27 => stW 3 (ptr b2) t26 (fun w28 => KW t27 w28) w25) PK w := by
  refine ldn_here h (List.mem_append_right _ (.head _)) (vs := rdC s a e) rfl rfl ?_
  refine refnum_spec hs (fun y hy => List.mem_append_right _ (.tail _ (hX y hy))) hb hl ha hw (by omega) h (fun w1 h1 => ?_)
  have hle := rnN_le (wd := wd) (e := e) ha
  have hv : (rnN l wd a e).2.2 < 256 ^ wd := by
    have hp : 0 < 256 ^ wd := Nat.pow_pos (by decide)
    unfold rnN
    split
    · exact hp
    · split
      · have h1 := val_lt _ (byt_take (byt_drop hb a) wd)
        have h2 : ((l.drop a).take wd).length ≤ wd := by rw [List.length_take]; omega
        exact Nat.lt_of_lt_of_le h1 (Nat.pow_le_pow_right (by decide) h2)
      · exact hp
  have hS' := st_num hS
  generalize rnN l wd a e = r at hle hv hS' ⊢
  repeat (first | refine pu_not ?_ | refine pu_eql ?_ | refine pu_neq ?_ | refine pu_lss ?_ | refine pu_leq ?_ | refine pu_gtr ?_ | refine pu_geq ?_ | refine pu_add ?_ | refine pu_sub ?_ | refine fa_at ?_ | refine nl_ptr ?_ | refine ex20 ?_ | refine ex21 ?_ | refine ex30 ?_ | refine ex31 ?_ | refine ex32 ?_ | refine ln_rule ?_ | refine pu_seq ?_ | refine pu_sne ?_)
  refine st_here h1 (rdC s r.1 r.2.1) rfl rfl (rd_plain hs) (by simp [rdC]) (fun w2 h2 => ?_)
  have e3 : (rdC s a e).take 0 ++ rdC s r.1 r.2.1 ++ (rdC s a e).drop (0 + 3) = rdC s r.1 r.2.1 := rfl
  rw [e3] at h2
  exact k _ _ _ _ hS' hle hv h2
/-- It is none. -/
theorem rp_fail {b2 b4 b6 : Nat} {c6 c4 : List Value} (hs : Sl X s (bv l)) (h6 : c6.length = 4) (h4 : c4.length = 3) (h : Ow B w (Y ++ (b6, cel c6 T.t_api_Program) :: (b4, cel c4 T.t_linesmanref10_Reader) :: (b2, rdO s a e) :: H))
    (k : ∀ w', Ow B w' H → K (.tuple #[.agg (rdC s a e).toArray, .agg (p0.cells nilS).toArray]) w') :
    ldW (some 3) (ptr b2) w fun t182 => pu PG (Instr.build T.t_api_Program #[]) fun t183 => stW 3 (ptr b4) t182 (fun w184 => stW 4 (ptr b6) t183 (fun w185 => ldW (some 3) (ptr b4) w185 fun t186 => ldW (some 4) (ptr b6) w185 fun t187 => K (.tuple #[t186, t187]) w185) w184) w := by
  refine ldn_here h (List.mem_append_right _ (.tail _ (.tail _ (.head _)))) (vs := rdC s a e) rfl rfl ?_
  refine pu_build (p0.cells nilS) (by kernel_rfl) ?_
  have h : Ow B w ((Y ++ [(b6, cel c6 T.t_api_Program)]) ++ (b4, cel c4 T.t_linesmanref10_Reader) :: (b2, rdO s a e) :: H) := by simpa using h
  refine st_here h (rdC s a e) rfl rfl (rd_plain hs) (by omega) (fun w1 h1 => ?_)
  have e4 : c4.take 0 ++ rdC s a e ++ c4.drop (0 + 3) = rdC s a e := by rw [List.drop_eq_nil_of_le (by omega)]; simp
  rw [e4] at h1
  have h1 : Ow B w1 (Y ++ (b6, cel c6 T.t_api_Program) :: (b4, rdO s a e) :: (b2, rdO s a e) :: H) := by simpa using h1
  refine st_here h1 (p0.cells nilS) rfl rfl rfl (by omega) (fun w2 h2 => ?_)
  have e6 : c6.take 0 ++ p0.cells nilS ++ c6.drop (0 + 4) = p0.cells nilS := by rw [List.drop_eq_nil_of_le (by omega)]; simp
  rw [e6] at h2
  refine ldn_here h2 (List.mem_append_right _ (.tail _ (.head _))) (vs := rdC s a e) rfl rfl ?_
  refine ldn_here h2 (List.mem_append_right _ (.head _)) (vs := p0.cells nilS) rfl rfl ?_
  exact k _ (h2.sub ((((List.Sublist.refl H).cons _).cons _).cons _ |>.trans (List.sublist_append_right _ _)))
def F3 (l : List Nat) (mu rw gr : Nat) (a : Nat) : Out := andE (num l a 1) fun n => rfuns l (fin l mu rw gr) n (a + 1) []
def F2 (l : List Nat) (mu rw : Nat) (a : Nat) : Out := andE (num l a 1) fun gr => F3 l mu rw gr (a + 1)
def F1 (l : List Nat) (mu : Nat) (a : Nat) : Out := andE (num l a 1) fun rw => F2 l mu rw (a + 1)
theorem rbody_eq : rbody l = fun a => andE (num l a 1) fun mu => F1 l mu (a + 1) := rfl
theorem st_ne {F G : Nat → Out} (h : St l a e F) (he : e ≠ 0) : St l a e G := by
  rcases h with ⟨h, _⟩ | h
  · exact absurd h he
  · exact .inr h
theorem st_err {F : Nat → Out} (h : St l a e F) (he : e ≠ 0) : progR l = .error e := by
  rcases h with ⟨h, _⟩ | h
  · exact absurd h he
  · exact h.2
theorem st_ok {F : Nat → Out} (h : St l a 0 F) : progR l = F a := by
  rcases h with ⟨_, h⟩ | h
  · exact h
  · exact absurd rfl h.1
end
end Go.Proofs.YtkkkcafkepnecaaGreat.Im

