/- Images, plain: what is written is read back; an image in which a byte is changed is none. -/
import Derived.Test.YtkkkcafkepnecaaGreatIL

set_option linter.unusedVariables false
set_option linter.unusedSimpArgs false
set_option linter.unnecessarySimpa false
namespace Go.Proofs.YtkkkcafkepnecaaGreat.Im
open Go Go.RowKit Vc Oc Dg

section
variable {l rest X : List Nat} {a : Nat} {i : Ins} {p : Pr}
theorem drop_len (h : l.drop a = X ++ rest) (hX : 1 ≤ X.length) : a + X.length ≤ l.length := by
  have := congrArg List.length h
  rw [List.length_drop, List.length_append] at this
  omega
theorem num_of {wd : Nat} (h : l.drop a = X ++ rest) (hX : X.length = wd) (hw : 1 ≤ wd) : num l a wd = .ok (val X) ∧ l.drop (a + wd) = rest := by
  have hl := drop_len h (by omega)
  rw [num_ok (by omega), h, List.take_left' hX]
  refine ⟨rfl, ?_⟩
  rw [← List.drop_drop, h, List.drop_left' hX]
theorem rdP_of (hi : i.Sm) : ∀ (ps : List Pk) (x : Ins) (a : Nat), l.drop a = ps.flatMap (partB i) ++ rest → rdP l ps x a = some (puts i ps x, a + (ps.flatMap (partB i)).length)
  | [], x, a, h => rfl
  | p :: ps, x, a, h => by
    rw [List.flatMap_cons, List.append_assoc] at h
    have hpl := partB_len i p
    have hpw := pw_pos p
    have hl := drop_len h (by omega)
    have ht : (l.drop a).take (pw p) = partB i p := by rw [h, List.take_left' hpl]
    have hd : l.drop (a + pw p) = ps.flatMap (partB i) ++ rest := by rw [← List.drop_drop, h, List.drop_left' hpl]
    unfold rdP
    rw [if_pos (by omega), ht]
    have hv : ((val (partB i p) : Nat) : Int) = p.get i := by
      unfold partB
      rw [val_fx _ _ (part_lt hi p), Int.toNat_of_nonneg (get_small hi p).1]
    rw [hv, rdP_of hi ps _ _ hd, List.flatMap_cons, List.length_append, hpl, Nat.add_assoc]
    rfl
theorem insR_of (hu : 0 ≤ i.imm ∧ i.imm < 4294967296) (hk : okI i = true) (h : l = insB i ++ rest) : insR l = (i, (insB i).length, 0) := by
  have hop := ok_op hk
  have hsm := ok_sm hu hk
  have ho : val (l.take 1) = i.op.toNat := by rw [h]; simp [insB, val]
  have hc : ((i.op.toNat : Nat) : Int) = i.op := Int.toNat_of_nonneg (by omega)
  have hl1 : 1 ≤ l.length := by rw [h, List.length_append]; have := insB_pos i; omega
  have hd : l.drop 1 = (nmd i.op).flatMap (partB i) ++ rest := by rw [h]; simp [insB]
  have hp : puts i (nmd i.op) (bare i.op) = i := by
    unfold okI at hk
    simp only [Bool.and_eq_true, decide_eq_true_eq] at hk
    exact hk.1.2
  unfold insR
  rw [if_neg (by omega), ho, if_neg (by omega), hc, rdP_of hsm _ _ _ hd, hp]
  simp only [if_pos hk]
  rw [show (insB i).length = 1 + ((nmd i.op).flatMap (partB i)).length by simp [insB]; omega]
theorem rins_of (hu : 0 ≤ i.imm ∧ i.imm < 4294967296) (hk : okI i = true) (h : l.drop a = insB i ++ rest) : rins l a = .ok (i, a + (insB i).length) ∧ l.drop (a + (insB i).length) = rest := by
  unfold rins
  rw [insR_of hu hk h, if_pos rfl]
  exact ⟨rfl, by rw [← List.drop_drop, h, List.drop_left]⟩
theorem rcode_of {k : List Ins → Nat → Out} : ∀ (c : List Ins) (a : Nat) (acc : List Ins), immOk c → (∀ i ∈ c, okI i = true) → l.drop a = codeB c ++ rest → rcode l k c.length a acc = k (acc ++ c) (a + (codeB c).length) ∧ l.drop (a + (codeB c).length) = rest
  | [], a, acc, _, _, h => by simpa [rcode, codeB] using h
  | i :: c, a, acc, hm, hk, h => by
    have e : codeB (i :: c) = insB i ++ codeB c := by simp [codeB]
    rw [e, List.append_assoc] at h
    obtain ⟨h1, h2⟩ := rins_of (hm i (.head _)) (hk i (.head _)) h
    obtain ⟨h3, h4⟩ := rcode_of (k := k) c _ (acc ++ [i]) (fun j hj => hm j (.tail _ hj)) (fun j hj => hk j (.tail _ hj)) h2
    rw [e, List.length_append, ← Nat.add_assoc]
    refine ⟨?_, h4⟩
    show rcode l k (c.length + 1) a acc = _
    unfold rcode
    rw [h1, andE_ok, h3]
    simp
structure FOk (f : Fun) : Prop where
  r : 0 ≤ f.regs ∧ f.regs < 256
  n : f.code.length < 65536
  m : immOk f.code
  k : ∀ i ∈ f.code, okI i = true
theorem rfuns_of {k : List Fun → Nat → Out} : ∀ (fs : List Fun) (a : Nat) (acc : List Fun), (∀ f ∈ fs, FOk f) → l.drop a = fs.flatMap funB ++ rest → rfuns l k fs.length a acc = k (acc ++ fs) (a + (fs.flatMap funB).length) ∧ l.drop (a + (fs.flatMap funB).length) = rest
  | [], a, acc, _, h => by simpa [rfuns] using h
  | f :: fs, a, acc, hk, h => by
    have hf := hk f (.head _)
    have hr := hf.r
    have hn := hf.n
    have h0 : l.drop a = [f.regs.toNat] ++ (fx f.code.length 2 ++ (codeB f.code ++ (fs.flatMap funB ++ rest))) := by rw [h]; simp [funB]
    obtain ⟨n1, d1⟩ := num_of h0 (wd := 1) rfl (by omega)
    obtain ⟨n2, d2⟩ := num_of d1 (wd := 2) (fx_len _ _) (by omega)
    have v1 : val [f.regs.toNat] = f.regs.toNat := by simp [val]
    have v2 : val (fx f.code.length 2) = f.code.length := val_fx _ _ (by omega)
    rw [v1] at n1
    rw [v2] at n2
    obtain ⟨c1, c2⟩ := rcode_of (k := fun c a' => rfuns l k fs.length a' (acc ++ [⟨f.regs.toNat, c⟩])) f.code (a + 1 + 2) [] hf.m hf.k d2
    obtain ⟨r1, r2⟩ := rfuns_of (k := k) fs _ (acc ++ [f]) (fun g hg => hk g (.tail _ hg)) c2
    have e : a + ((f :: fs).flatMap funB).length = a + 1 + 2 + (codeB f.code).length + (fs.flatMap funB).length := by
      simp only [List.flatMap_cons, List.length_append, funB, List.length_cons, fx_len]; omega
    rw [e]
    refine ⟨?_, r2⟩
    show rfuns l k (fs.length + 1) a acc = _
    unfold rfuns
    have hfe : (⟨(f.regs.toNat : Int), [] ++ f.code⟩ : Fun) = f := by
      rw [Int.toNat_of_nonneg hr.1]; rfl
    rw [n1, andE_ok, n2, andE_ok, c1, hfe, r1]
    simp
theorem fok (hm : ∀ f ∈ p.fs, immOk f.code) (h : okP' p = true) : ∀ f ∈ p.fs, FOk f := fun f hf => by
  have := (ok_fits h).f f hf
  exact ⟨by omega, by omega, hm f hf, fun i hi => ok_ins h hf hi⟩
theorem rmag_of {k : Nat → Out} : ∀ (cs : List Nat) (a : Nat), l.drop a = cs ++ rest → rmag l k cs a = k (a + cs.length) ∧ l.drop (a + cs.length) = rest
  | [], a, h => ⟨rfl, h⟩
  | c :: cs, a, h => by
    obtain ⟨n1, d1⟩ := num_of (X := [c]) h (wd := 1) rfl (by omega)
    have v1 : val [c] = c := by simp [val]
    rw [v1] at n1
    obtain ⟨m1, m2⟩ := rmag_of (k := k) cs (a + 1) d1
    have e : a + (c :: cs).length = a + 1 + cs.length := by rw [List.length_cons]; omega
    rw [e]
    refine ⟨?_, m2⟩
    unfold rmag
    rw [n1, andE_ok, if_pos rfl, m1]
/-- What is written is read back, whatever stands behind. -/
theorem progR_enc (hm : ∀ f ∈ p.fs, immOk f.code) (h : okP' p = true) (rest : List Nat) : progR (encB p ++ rest) = .ok (p, (encB p).length) := by
  generalize hl : encB p ++ rest = l
  have hf := ok_fits h
  have h1 := hf.n; have h2 := hf.mu; have h3 := hf.rw; have h4 := hf.gr
  have d0 : l.drop 0 = magic ++ ([p.mu.toNat] ++ ([p.rw.toNat] ++ ([p.gr.toNat] ++ ([p.fs.length] ++ (p.fs.flatMap funB ++ (fx (sum (bareB p)) 8 ++ rest)))))) := by
    rw [← hl]; simp [encB, bareB, headB]
  obtain ⟨m1, d1⟩ := rmag_of (k := rbody l) magic 0 d0
  have v : ∀ n, val [n] = n := fun n => by simp [val]
  obtain ⟨n1, d2⟩ := num_of d1 (wd := 1) rfl (by omega)
  obtain ⟨n2, d3⟩ := num_of d2 (wd := 1) rfl (by omega)
  obtain ⟨n3, d4⟩ := num_of d3 (wd := 1) rfl (by omega)
  obtain ⟨n4, d5⟩ := num_of d4 (wd := 1) rfl (by omega)
  rw [v] at n1 n2 n3 n4
  obtain ⟨r1, d6⟩ := rfuns_of (k := fin l p.mu.toNat p.rw.toNat p.gr.toNat) p.fs _ [] (fok hm h) d5
  obtain ⟨n5, _⟩ := num_of d6 (wd := 8) (fx_len _ _) (by omega)
  have hs : val (fx (sum (bareB p)) 8) = sum (bareB p) := val_fx _ _ (Nat.lt_of_lt_of_eq (sum_lt (bare_byt h)) (by decide))
  rw [hs] at n5
  generalize hA : 0 + magic.length + 1 + 1 + 1 + 1 + (p.fs.flatMap funB).length = A at r1 n5 d6
  have hAl : A = (bareB p).length := by
    rw [← hA]; simp only [bareB, headB, magic, List.length_append, List.length_cons, List.length_nil]
  have htk : l.take A = bareB p := by
    rw [hAl, ← hl, encB, List.append_assoc, List.take_left]
  have hpe : (⟨[] ++ p.fs, (p.mu.toNat : Int), (p.rw.toNat : Int), (p.gr.toNat : Int)⟩ : Pr) = p := by
    rw [Int.toNat_of_nonneg h2.1, Int.toNat_of_nonneg h3.1, Int.toNat_of_nonneg h4.1]; rfl
  unfold progR
  rw [m1]
  unfold rbody
  rw [n1, andE_ok, n2, andE_ok, n3, andE_ok, n4, andE_ok, r1]
  unfold fin
  rw [n5, andE_ok, htk, hpe, if_pos ⟨rfl, h⟩, hAl]
  simp [encB, fx_len]
theorem decR_enc (hm : ∀ f ∈ p.fs, immOk f.code) (h : okP' p = true) : decR (encB p) = (p, 0) := by
  have := progR_enc hm h []
  rw [List.append_nil] at this
  unfold decR
  rw [this]
  simp
/-! ### A byte is changed -/
theorem val_inj : ∀ {x y : List Nat}, Byt x → Byt y → x.length = y.length → val x = val y → x = y
  | [], [], _, _, _, _ => rfl
  | c :: x, d :: y, hx, hy, hl, h => by
    have hc := hx c (.head _)
    have hd := hy d (.head _)
    simp only [val] at h
    have h1 : c = d := by omega
    have h2 : val x = val y := by omega
    rw [h1, val_inj (fun z hz => hx z (.tail _ hz)) (fun z hz => hy z (.tail _ hz)) (by simpa using hl) h2]
  | [], _ :: _, _, _, hl, _ => by simp at hl
  | _ :: _, [], _, _, hl, _ => by simp at hl
theorem decR_bad (h : okP' p = true) {u t : List Nat} {c d : Nat} (he : encB p = u ++ c :: t) (hne : d ≠ c) (hd : d < 256) : (decR (u ++ d :: t)).2 = 110 ∨ (decR (u ++ d :: t)).2 = 200 := by
  have hby := enc_byt h
  rw [he] at hby
  have hbu : Byt u := (byt_of_app hby).1
  have hbt : Byt t := fun x hx => hby x (List.mem_append_right _ (.tail _ hx))
  have hc : c < 256 := hby c (List.mem_append_right _ (.head _))
  generalize hl : u ++ d :: t = l
  unfold decR
  cases hP : progR l with
  | error e => exact progR_er hP
  | ok q =>
    simp only
    by_cases hq : q.2 < l.length
    · rw [if_pos hq]; exact .inr rfl
    · exfalso
      obtain ⟨e1, e2, e3, _⟩ := progR_ok hP
      have hql : q.2 = l.length := by omega
      have hll : l.length = (encB p).length := by rw [← hl, he]; simp
      have hbl : (bareB p).length + 8 = (encB p).length := by simp [encB, fx_len]
      have hq8 : q.2 - 8 = (bareB p).length := by omega
      rw [hq8] at e3
      have hs : val (fx (sum (bareB p)) 8) = sum (bareB p) := val_fx _ _ (Nat.lt_of_lt_of_eq (sum_lt (bare_byt h)) (by decide))
      have htail : (l.drop (bareB p).length).take 8 = l.drop (bareB p).length := List.take_of_length_le (by rw [List.length_drop]; omega)
      rw [htail] at e3
      by_cases hu : u.length < (bareB p).length
      · -- within what is summed
        obtain ⟨t1, ht1⟩ : ∃ t1, bareB p = u ++ c :: t1 := by
          have h1 : (encB p).take (bareB p).length = bareB p := by rw [encB, List.take_left]
          rw [he, List.take_append] at h1
          obtain ⟨k, hk⟩ : ∃ k, (bareB p).length - u.length = k + 1 := ⟨(bareB p).length - u.length - 1, by omega⟩
          rw [List.take_of_length_le (by omega), hk, List.take_succ_cons] at h1
          exact ⟨_, h1.symm⟩
        have ht : t = t1 ++ fx (sum (bareB p)) 8 := by
          have : u ++ c :: t = (u ++ c :: t1) ++ fx (sum (bareB p)) 8 := by rw [← he, ← ht1]; rfl
          simpa using this
        have hl2 : l = (u ++ d :: t1) ++ fx (sum (bareB p)) 8 := by rw [← hl, ht]; simp
        have hlen : (u ++ d :: t1).length = (bareB p).length := by rw [ht1]; simp
        rw [hl2, List.drop_left' hlen, List.take_left' hlen, hs, ht1] at e3
        have hbt1 : Byt t1 := by rw [ht] at hbt; exact (byt_of_app hbt).1
        exact sum_ne hbu hbt1 hc hd (fun hh => hne hh.symm) e3
      · -- within the sum
        have hu : (bareB p).length ≤ u.length := by omega
        have h1 : (encB p).take (bareB p).length = bareB p := by rw [encB, List.take_left]
        rw [he, List.take_append_of_le_length hu] at h1
        have h2 : l.take (bareB p).length = bareB p := by rw [← hl, List.take_append_of_le_length hu, h1]
        rw [h2] at e3
        have hbyl : Byt l := by
          rw [← hl]
          exact byt_app hbu (fun x hx => by rcases List.mem_cons.1 hx with rfl | hx; exact hd; exact hbt x hx)
        have h3 : (l.drop (bareB p).length) = fx (sum (bareB p)) 8 := val_inj (byt_drop hbyl _) (fx_byt _ _) (by rw [List.length_drop, fx_len]; omega) (by rw [hs]; exact e3)
        have h4 : l = encB p := by
          rw [← List.take_append_drop (bareB p).length l, h2, h3]; rfl
        rw [← hl, he] at h4
        have := List.append_cancel_left h4
        simp only [List.cons.injEq] at this
        exact hne this.1
end
end Go.Proofs.YtkkkcafkepnecaaGreat.Im

