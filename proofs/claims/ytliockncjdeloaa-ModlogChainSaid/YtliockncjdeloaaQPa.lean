/-
  Plain law: what is printed tells the formula.
-/
import Derived.Test.YtliockncjdeloaaQMB
namespace Go.Proofs.Ytliockncjdeloaa
open Go Go.Pv
set_option linter.unusedVariables false
set_option linter.unusedSimpArgs false
set_option maxRecDepth 100000

def Td (f : Fm) : Prop := ∀ x ∈ pre f, okN x
theorem Td.kid {f g : Fm} (h : Td f) (hg : g ∈ f.kids) : Td g := fun x hx => h x (by rw [pre_eq]; exact List.mem_cons_of_mem _ (pres_mem hx _ hg))
theorem Td.ok {f : Fm} (h : Td f) : OkF (fun n => isNameB n = true) f := okF_of_pre f h
theorem Td.nine {f : Fm} (h : Td f) : (∃ nm, isNameB nm = true ∧ f = .mk 1 nm []) ∨ (f = .mk 2 ⟨#[]⟩ []) ∨ (f = .mk 3 ⟨#[]⟩ []) ∨ (∃ a, Td a ∧ f = .mk 4 ⟨#[]⟩ [a]) ∨ (∃ a b, Td a ∧ Td b ∧ f = .mk 5 ⟨#[]⟩ [a, b]) ∨
    (∃ a b, Td a ∧ Td b ∧ f = .mk 6 ⟨#[]⟩ [a, b]) ∨ (∃ a b, Td a ∧ Td b ∧ f = .mk 7 ⟨#[]⟩ [a, b]) ∨ (∃ a, Td a ∧ f = .mk 8 ⟨#[]⟩ [a]) ∨ (∃ a, Td a ∧ f = .mk 9 ⟨#[]⟩ [a]) := by
  have hn := (h f (by rw [pre_eq]; exact List.mem_cons_self)).2.2
  rcases h.ok.nine with ⟨nm, hN, rfl⟩ | ⟨nm, rfl⟩ | ⟨nm, rfl⟩ | ⟨nm, a, ha, rfl⟩ | ⟨nm, a, b, ha, hb, rfl⟩ | ⟨nm, a, b, ha, hb, rfl⟩ | ⟨nm, a, b, ha, hb, rfl⟩ | ⟨nm, a, ha, rfl⟩ | ⟨nm, a, ha, rfl⟩
  all_goals simp only [Fm.kind, Fm.name] at hn
  · exact .inl ⟨nm, hN, rfl⟩
  all_goals obtain rfl : nm = ⟨#[]⟩ := by (refine Classical.byContradiction fun g => hn (.inr ⟨by decide, g⟩))
  · exact .inr (.inl rfl)
  · exact .inr (.inr (.inl rfl))
  · exact .inr (.inr (.inr (.inl ⟨a, h.kid (by simp [Fm.kids]), rfl⟩)))
  · exact .inr (.inr (.inr (.inr (.inl ⟨a, b, h.kid (by simp [Fm.kids]), h.kid (by simp [Fm.kids]), rfl⟩))))
  · exact .inr (.inr (.inr (.inr (.inr (.inl ⟨a, b, h.kid (by simp [Fm.kids]), h.kid (by simp [Fm.kids]), rfl⟩)))))
  · exact .inr (.inr (.inr (.inr (.inr (.inr (.inl ⟨a, b, h.kid (by simp [Fm.kids]), h.kid (by simp [Fm.kids]), rfl⟩))))))
  · exact .inr (.inr (.inr (.inr (.inr (.inr (.inr (.inl ⟨a, h.kid (by simp [Fm.kids]), rfl⟩)))))))
  · exact .inr (.inr (.inr (.inr (.inr (.inr (.inr (.inr ⟨a, h.kid (by simp [Fm.kids]), rfl⟩)))))))

abbrev Bs := List UInt8
def cut : Bs → Bs → Option Bs
  | [], r => some r
  | c :: cs, x :: r => if c = x then cut cs r else none
  | _ :: _, [] => none
theorem cut_app (c r : Bs) : cut c (c ++ r) = some r := by
  induction c with
  | nil => rfl
  | cons x c ih => simp [cut, ih]
def loopP (c : Bs) (k : Int) (Q : Bs → Option (Fm × Bs)) : Nat → Fm → Bs → Option (Fm × Bs)
  | 0, a, r => some (a, r)
  | m + 1, a, r => match cut c r with
    | none => some (a, r)
    | some r1 => match Q r1 with
      | none => none
      | some (b, r2) => loopP c k Q m (.mk k ⟨#[]⟩ [a, b]) r2
theorem loopP_stop {c : Bs} {k : Int} {Q : Bs → Option (Fm × Bs)} {a : Fm} {r : Bs} (h : cut c r = none) : ∀ m, loopP c k Q m a r = some (a, r)
  | 0 => rfl
  | m + 1 => by rw [loopP, h]
def unP (k : Int) (Q : Bs → Option (Fm × Bs)) (r : Bs) : Option (Fm × Bs) := (Q r).map fun p => (.mk k ⟨#[]⟩ [p.1], p.2)
def atomP (p1 p4 : Bs → Option (Fm × Bs)) (r : Bs) : Option (Fm × Bs) := match r with
  | [] => none
  | x :: r => if x = 49 then some (.mk 2 ⟨#[]⟩ [], r) else if x = 48 then some (.mk 3 ⟨#[]⟩ [], r) else if x = 126 then unP 4 p4 r else if x = 91 then unP 8 p4 (r.drop 1) else if x = 60 then unP 9 p4 (r.drop 1)
    else if x = 40 then (p1 r).map fun p => (p.1, p.2.drop 1) else some (.mk 1 ⟨((x :: r).takeWhile letterB).toArray⟩ [], (x :: r).dropWhile letterB)
def cAnd : Bs := [32, 38, 32]
def cOr : Bs := [32, 124, 32]
def cThen : Bs := [32, 45, 62, 32]
def p3P (n : Nat) (p4 : Bs → Option (Fm × Bs)) (r : Bs) : Option (Fm × Bs) := (p4 r).bind fun p => loopP cAnd 5 p4 n p.1 p.2
def p2P (n : Nat) (p3 : Bs → Option (Fm × Bs)) (r : Bs) : Option (Fm × Bs) := (p3 r).bind fun p => loopP cOr 6 p3 n p.1 p.2
def p1P (p2 p1 : Bs → Option (Fm × Bs)) (r : Bs) : Option (Fm × Bs) := (p2 r).bind fun p => match cut cThen p.2 with
  | none => some p
  | some r1 => (p1 r1).map fun q => (.mk 7 ⟨#[]⟩ [p.1, q.1], q.2)
def PP : Nat → (Bs → Option (Fm × Bs)) × (Bs → Option (Fm × Bs))
  | 0 => (fun _ => none, fun _ => none)
  | n + 1 => (atomP (PP n).2 (PP n).1, p1P (p2P (n + 1) (p3P (n + 1) (atomP (PP n).2 (PP n).1))) (PP n).2)
def nf : Bs → Prop
  | [] => True
  | x :: _ => letterB x = false
def sd (f : Fm) (lv : Int) : Bs := (said f lv).data.toList
theorem takeW (nm r : Bs) (h : nm.all letterB = true) (hr : nf r) : (nm ++ r).takeWhile letterB = nm ∧ (nm ++ r).dropWhile letterB = r := by
  induction nm with
  | nil =>
    cases r with
    | nil => exact ⟨rfl, rfl⟩
    | cons x r => simp [nf] at hr; simp [hr]
  | cons x nm ih =>
    simp only [List.all_cons, Bool.and_eq_true] at h
    simp [h.1, ih h.2]
theorem said_core (k : Int) (nm : ByteArray) (l : List Fm) : ∃ c : ByteArray, ∀ lv, said (.mk k nm l) lv = paren c k lv := ⟨_, fun lv => by rw [said]⟩
theorem levelN_pos (k : Int) : ¬ levelN k < 1 := by unfold levelN; split <;> (try split) <;> (try split) <;> omega
theorem sd_low {k : Int} {nm : ByteArray} {l : List Fm} {lv : Int} (h : levelN k < lv) : sd (.mk k nm l) lv = 40 :: (sd (.mk k nm l) 1 ++ [41]) := by
  obtain ⟨c, hc⟩ := said_core k nm l
  unfold sd
  rw [hc, hc, paren, paren, if_pos h, if_neg (levelN_pos k)]
  simp
theorem sd_high {k : Int} {nm : ByteArray} {l : List Fm} {lv : Int} (h : lv ≤ levelN k) : sd (.mk k nm l) lv = sd (.mk k nm l) 1 := by
  obtain ⟨c, hc⟩ := said_core k nm l
  unfold sd
  rw [hc, hc, paren, paren, if_neg (by omega), if_neg (levelN_pos k)]
theorem sd1 {nm : ByteArray} : sd (.mk 1 nm []) 1 = nm.data.toList := by unfold sd; rw [said]; rfl
theorem sd2 {nm : ByteArray} : sd (.mk 2 nm []) 1 = [49] := by unfold sd; rw [said]; rfl
theorem sd3 {nm : ByteArray} : sd (.mk 3 nm []) 1 = [48] := by unfold sd; rw [said]; rfl
theorem sd4 {nm : ByteArray} {a : Fm} : sd (.mk 4 nm [a]) 1 = 126 :: sd a 4 := by unfold sd; rw [said]; simp [saids, paren, levelN]
theorem sd8 {nm : ByteArray} {a : Fm} : sd (.mk 8 nm [a]) 1 = 91 :: 93 :: sd a 4 := by unfold sd; rw [said]; simp [saids, paren, levelN]
theorem sd9 {nm : ByteArray} {a : Fm} : sd (.mk 9 nm [a]) 1 = 60 :: 62 :: sd a 4 := by unfold sd; rw [said]; simp [saids, paren, levelN]
theorem sd5 {nm : ByteArray} {a b : Fm} : sd (.mk 5 nm [a, b]) 1 = sd a 3 ++ (cAnd ++ sd b 4) := by unfold sd; rw [said]; simp [saids, paren, levelN, cAnd]
theorem sd6 {nm : ByteArray} {a b : Fm} : sd (.mk 6 nm [a, b]) 1 = sd a 2 ++ (cOr ++ sd b 3) := by unfold sd; rw [said]; simp [saids, paren, levelN, cOr]
theorem sd7 {nm : ByteArray} {a b : Fm} : sd (.mk 7 nm [a, b]) 1 = sd a 2 ++ (cThen ++ sd b 1) := by unfold sd; rw [said]; simp [saids, paren, levelN, cThen]

structure Read (n : Nat) (f : Fm) : Prop where
  a1 : 2 * (pre f).length ≤ n → ∀ r, nf r → cut cAnd r = none → cut cOr r = none → cut cThen r = none → (PP n).2 (sd f 1 ++ r) = some (f, r)
  a4 : 2 * (pre f).length + 1 ≤ n → ∀ r, nf r → (PP n).1 (sd f 4 ++ r) = some (f, r)
  a3 : 2 * (pre f).length + 1 ≤ n → ∀ r, nf r → ∃ k, k < (pre f).length ∧ ∀ m, k ≤ m → ((PP n).1 (sd f 3 ++ r)).bind (fun p => loopP cAnd 5 (PP n).1 m p.1 p.2) = loopP cAnd 5 (PP n).1 (m - k) f r
  a2 : 2 * (pre f).length + 1 ≤ n → ∀ r, nf r → cut cAnd r = none → ∃ k, k < (pre f).length ∧ ∀ m, k ≤ m → (p3P n (PP n).1 (sd f 2 ++ r)).bind (fun p => loopP cOr 6 (p3P n (PP n).1) m p.1 p.2) = loopP cOr 6 (p3P n (PP n).1) (m - k) f r
theorem PP1 (n : Nat) : (PP (n + 1)).1 = atomP (PP n).2 (PP n).1 := rfl
theorem PP2 (n : Nat) : (PP (n + 1)).2 = p1P (p2P (n + 1) (p3P (n + 1) (PP (n + 1)).1)) (PP n).2 := rfl
theorem loopP_at {c : Bs} {k : Int} {Q : Bs → Option (Fm × Bs)} {a b : Fm} {r r2 : Bs} {m : Nat} (hQ : Q r = some (b, r2)) : loopP c k Q (m + 1) a (c ++ r) = loopP c k Q m (.mk k ⟨#[]⟩ [a, b]) r2 := by
  rw [loopP, cut_app]; dsimp only; rw [hQ]
/-- an atom, read as such -/
theorem up3 {n : Nat} {f : Fm} {i r : Bs} (h : (PP n).1 (i ++ r) = some (f, r)) : ∃ k, k < (pre f).length ∧ ∀ m, k ≤ m → ((PP n).1 (i ++ r)).bind (fun p => loopP cAnd 5 (PP n).1 m p.1 p.2) = loopP cAnd 5 (PP n).1 (m - k) f r :=
  ⟨0, by have := pre_pos f; omega, fun m _ => by rw [h]; rfl⟩
theorem to3 {n : Nat} {f : Fm} {i r : Bs} (hn : (pre f).length ≤ n) (hr : cut cAnd r = none) (h : ∃ k, k < (pre f).length ∧ ∀ m, k ≤ m → ((PP n).1 (i ++ r)).bind (fun p => loopP cAnd 5 (PP n).1 m p.1 p.2) = loopP cAnd 5 (PP n).1 (m - k) f r) : p3P n (PP n).1 (i ++ r) = some (f, r) := by
  obtain ⟨k, hk, h⟩ := h
  unfold p3P
  rw [h n (by omega), loopP_stop hr]
theorem up2 {n : Nat} {f : Fm} {i r : Bs} (h : p3P n (PP n).1 (i ++ r) = some (f, r)) : ∃ k, k < (pre f).length ∧ ∀ m, k ≤ m → (p3P n (PP n).1 (i ++ r)).bind (fun p => loopP cOr 6 (p3P n (PP n).1) m p.1 p.2) = loopP cOr 6 (p3P n (PP n).1) (m - k) f r :=
  ⟨0, by have := pre_pos f; omega, fun m _ => by rw [h]; rfl⟩
theorem to2 {n : Nat} {f : Fm} {i r : Bs} (hn : (pre f).length ≤ n) (hr : cut cOr r = none) (h : ∃ k, k < (pre f).length ∧ ∀ m, k ≤ m → (p3P n (PP n).1 (i ++ r)).bind (fun p => loopP cOr 6 (p3P n (PP n).1) m p.1 p.2) = loopP cOr 6 (p3P n (PP n).1) (m - k) f r) : p2P n (p3P n (PP n).1) (i ++ r) = some (f, r) := by
  obtain ⟨k, hk, h⟩ := h
  unfold p2P
  rw [h n (by omega), loopP_stop hr]
theorem to1 {n : Nat} {f : Fm} {i r : Bs} (hr : cut cThen r = none) (h : p2P (n + 1) (p3P (n + 1) (PP (n + 1)).1) (i ++ r) = some (f, r)) : (PP (n + 1)).2 (i ++ r) = some (f, r) := by
  rw [PP2, p1P, h]
  simp only [Option.bind_some]
  rw [hr]
/-- what stands in brackets -/
theorem braced {n : Nat} {f : Fm} {r : Bs} (h : (PP n).2 (sd f 1 ++ (41 :: r)) = some (f, 41 :: r)) : (PP (n + 1)).1 ((40 :: (sd f 1 ++ [41])) ++ r) = some (f, r) := by
  rw [PP1]
  simp only [List.cons_append, List.append_assoc, List.nil_append, atomP]
  rw [h]; rfl
theorem bracedA {f : Fm} (A1 : ∀ n, 2 * (pre f).length ≤ n → ∀ r, nf r → cut cAnd r = none → cut cOr r = none → cut cThen r = none → (PP n).2 (sd f 1 ++ r) = some (f, r)) (n : Nat) (hn : 2 * (pre f).length + 1 ≤ n) (r : Bs) : (PP n).1 ((40 :: (sd f 1 ++ [41])) ++ r) = some (f, r) := by
  obtain ⟨m, rfl⟩ : ∃ m, n = m + 1 := ⟨n - 1, by omega⟩
  exact braced (A1 m (by omega) _ rfl rfl rfl rfl)
theorem read4 {k : Int} {nm : ByteArray} {l : List Fm} (hk : levelN k = 4) (core : ∀ n, 2 * (pre (.mk k nm l)).length ≤ n → ∀ r, nf r → (PP n).1 (sd (.mk k nm l) 1 ++ r) = some (.mk k nm l, r)) (n : Nat) : Read n (.mk k nm l) where
  a1 := fun hn r h0 h1 h2 h3 => by
    obtain ⟨m, rfl⟩ : ∃ m, n = m + 1 := ⟨n - 1, by have := pre_pos (.mk k nm l); omega⟩
    exact to1 h3 (to2 (by omega) h2 (up2 (to3 (by omega) h1 (up3 (core _ hn r h0)))))
  a4 := fun hn r h0 => by rw [sd_high (by omega)]; exact core n (by omega) r h0
  a3 := fun hn r h0 => by rw [sd_high (by omega)]; exact up3 (core n (by omega) r h0)
  a2 := fun hn r h0 h1 => by rw [sd_high (by omega)]; exact up2 (to3 (by omega) h1 (up3 (core n (by omega) r h0)))
theorem read3 {k : Int} {nm : ByteArray} {l : List Fm} (hk : levelN k = 3) (core : ∀ n, 2 * (pre (.mk k nm l)).length ≤ n → ∀ r, nf r → ∃ j, j < (pre (.mk k nm l)).length ∧ ∀ m, j ≤ m → ((PP n).1 (sd (.mk k nm l) 1 ++ r)).bind (fun p => loopP cAnd 5 (PP n).1 m p.1 p.2) = loopP cAnd 5 (PP n).1 (m - j) (.mk k nm l) r) (n : Nat) : Read n (.mk k nm l) :=
  have A1 : ∀ n, 2 * (pre (.mk k nm l)).length ≤ n → ∀ r, nf r → cut cAnd r = none → cut cOr r = none → cut cThen r = none → (PP n).2 (sd (.mk k nm l) 1 ++ r) = some (.mk k nm l, r) := fun n hn r h0 h1 h2 h3 => by
    obtain ⟨m, rfl⟩ : ∃ m, n = m + 1 := ⟨n - 1, by have := pre_pos (.mk k nm l); omega⟩
    exact to1 h3 (to2 (by omega) h2 (up2 (to3 (by omega) h1 (core _ hn r h0))))
  { a1 := A1 n
    a4 := fun hn r h0 => by rw [sd_low (by omega)]; exact bracedA A1 n hn r
    a3 := fun hn r h0 => by rw [sd_high (by omega)]; exact core n (by omega) r h0
    a2 := fun hn r h0 h1 => by rw [sd_high (by omega)]; exact up2 (to3 (by omega) h1 (core n (by omega) r h0)) }
theorem read2 {k : Int} {nm : ByteArray} {l : List Fm} (hk : levelN k = 2) (core : ∀ n, 2 * (pre (.mk k nm l)).length ≤ n → ∀ r, nf r → cut cAnd r = none → ∃ j, j < (pre (.mk k nm l)).length ∧ ∀ m, j ≤ m → (p3P n (PP n).1 (sd (.mk k nm l) 1 ++ r)).bind (fun p => loopP cOr 6 (p3P n (PP n).1) m p.1 p.2) = loopP cOr 6 (p3P n (PP n).1) (m - j) (.mk k nm l) r) (n : Nat) : Read n (.mk k nm l) :=
  have A1 : ∀ n, 2 * (pre (.mk k nm l)).length ≤ n → ∀ r, nf r → cut cAnd r = none → cut cOr r = none → cut cThen r = none → (PP n).2 (sd (.mk k nm l) 1 ++ r) = some (.mk k nm l, r) := fun n hn r h0 h1 h2 h3 => by
    obtain ⟨m, rfl⟩ : ∃ m, n = m + 1 := ⟨n - 1, by have := pre_pos (.mk k nm l); omega⟩
    exact to1 h3 (to2 (by omega) h2 (core _ hn r h0 h1))
  { a1 := A1 n
    a4 := fun hn r h0 => by rw [sd_low (by omega)]; exact bracedA A1 n hn r
    a3 := fun hn r h0 => by rw [sd_low (by omega)]; exact up3 (bracedA A1 n hn r)
    a2 := fun hn r h0 h1 => by rw [sd_high (by omega)]; exact core n (by omega) r h0 h1 }
theorem read1 {k : Int} {nm : ByteArray} {l : List Fm} (hk : levelN k = 1) (A1 : ∀ n, 2 * (pre (.mk k nm l)).length ≤ n → ∀ r, nf r → cut cAnd r = none → cut cOr r = none → cut cThen r = none → (PP n).2 (sd (.mk k nm l) 1 ++ r) = some (.mk k nm l, r)) (n : Nat) : Read n (.mk k nm l) :=
  { a1 := A1 n
    a4 := fun hn r h0 => by rw [sd_low (by omega)]; exact bracedA A1 n hn r
    a3 := fun hn r h0 => by rw [sd_low (by omega)]; exact up3 (bracedA A1 n hn r)
    a2 := fun hn r h0 h1 => by rw [sd_low (by omega)]; exact up2 (to3 (by omega) h1 (up3 (bracedA A1 n hn r))) }
theorem nf_41 {r : Bs} : nf (41 :: r) := rfl
theorem cut_41 {r : Bs} : cut cAnd (41 :: r) = none ∧ cut cOr (41 :: r) = none ∧ cut cThen (41 :: r) = none := ⟨rfl, rfl, rfl⟩
theorem read_all (f : Fm) : Td f → ∀ n, Read n f := by
  induction f using Fm.ind with
  | h f ih =>
    intro h
    rcases h.nine with ⟨nm, hn, rfl⟩ | rfl | rfl | ⟨a, ha, rfl⟩ | ⟨a, b, ha, hb, rfl⟩ | ⟨a, b, ha, hb, rfl⟩ | ⟨a, b, ha, hb, rfl⟩ | ⟨a, ha, rfl⟩ | ⟨a, ha, rfl⟩
    · refine read4 rfl fun n hn' r h0 => ?_
      obtain ⟨m, rfl⟩ : ∃ m, n = m + 1 := ⟨n - 1, by rw [pre_len0] at hn'; omega⟩
      rw [sd1, PP1]
      simp only [isNameB, Bool.and_eq_true, decide_eq_true_eq] at hn
      have hsz : nm.data.toList.length = nm.size := Array.length_toList
      obtain ⟨t1, t2⟩ := takeW nm.data.toList r hn.2 h0
      have hnm : nm = ⟨nm.data.toList.toArray⟩ := by cases nm; exact congrArg ByteArray.mk Array.toArray_toList.symm
      generalize hl : nm.data.toList = cs at *
      cases cs with
      | nil => simp at hsz; omega
      | cons x cs =>
        have hx : letterB x = true := by have := hn.2; simp at this; exact this.1
        have hx2 : 97 ≤ x.toNat ∧ x.toNat ≤ 122 := by simpa [letterB] using hx
        have hne : ∀ c : UInt8, (c.toNat < 97 ∨ 122 < c.toNat) → x ≠ c := by rintro c hc rfl; omega
        simp only [List.cons_append, atomP] at t1 t2 ⊢
        rw [if_neg (hne _ (by decide)), if_neg (hne _ (by decide)), if_neg (hne _ (by decide)), if_neg (hne _ (by decide)), if_neg (hne _ (by decide)), if_neg (hne _ (by decide)), t1, t2, ← hnm]
    · refine read4 rfl fun n hn' r h0 => ?_
      obtain ⟨m, rfl⟩ : ∃ m, n = m + 1 := ⟨n - 1, by rw [pre_len0] at hn'; omega⟩
      rw [sd2, PP1]; rfl
    · refine read4 rfl fun n hn' r h0 => ?_
      obtain ⟨m, rfl⟩ : ∃ m, n = m + 1 := ⟨n - 1, by rw [pre_len0] at hn'; omega⟩
      rw [sd3, PP1]; rfl
    · refine read4 rfl fun n hn' r h0 => ?_
      rw [pre_len1] at hn'
      obtain ⟨m, rfl⟩ : ∃ m, n = m + 1 := ⟨n - 1, by omega⟩
      rw [sd4, PP1]
      show unP 4 (PP m).1 (sd a 4 ++ r) = _
      rw [unP, (ih a (by simp) ha m).a4 (by omega) r h0]; rfl
    · refine read3 rfl fun n hn' r h0 => ?_
      rw [pre_len2] at hn'
      obtain ⟨k, hk, h1⟩ := (ih a (by simp) ha n).a3 (by omega) (cAnd ++ (sd b 4 ++ r)) rfl
      refine ⟨k + 1, by rw [pre_len2]; omega, fun m hm => ?_⟩
      rw [sd5, List.append_assoc, List.append_assoc, h1 m (by omega), show m - k = (m - (k + 1)) + 1 by omega, loopP_at ((ih b (by simp) hb n).a4 (by omega) r h0)]
    · refine read2 rfl fun n hn' r h0 hc => ?_
      rw [pre_len2] at hn'
      obtain ⟨k, hk, h1⟩ := (ih a (by simp) ha n).a2 (by omega) (cOr ++ (sd b 3 ++ r)) rfl rfl
      refine ⟨k + 1, by rw [pre_len2]; omega, fun m hm => ?_⟩
      rw [sd6, List.append_assoc, List.append_assoc, h1 m (by omega), show m - k = (m - (k + 1)) + 1 by omega, loopP_at (to3 (by omega) hc ((ih b (by simp) hb n).a3 (by omega) r h0))]
    · refine read1 rfl fun n hn' r h0 h1 h2 h3 => ?_
      rw [pre_len2] at hn'
      obtain ⟨m, rfl⟩ : ∃ m, n = m + 1 := ⟨n - 1, by omega⟩
      rw [sd7, List.append_assoc, List.append_assoc, PP2, p1P, to2 (by omega) rfl ((ih a (by simp) ha (m + 1)).a2 (by omega) (cThen ++ (sd b 1 ++ r)) rfl rfl)]
      simp only [Option.bind_some]
      rw [cut_app]
      simp only
      rw [(ih b (by simp) hb m).a1 (by omega) r h0 h1 h2 h3]; rfl
    · refine read4 rfl fun n hn' r h0 => ?_
      rw [pre_len1] at hn'
      obtain ⟨m, rfl⟩ : ∃ m, n = m + 1 := ⟨n - 1, by omega⟩
      rw [sd8, PP1]
      show unP 8 (PP m).1 (sd a 4 ++ r) = _
      rw [unP, (ih a (by simp) ha m).a4 (by omega) r h0]; rfl
    · refine read4 rfl fun n hn' r h0 => ?_
      rw [pre_len1] at hn'
      obtain ⟨m, rfl⟩ : ∃ m, n = m + 1 := ⟨n - 1, by omega⟩
      rw [sd9, PP1]
      show unP 9 (PP m).1 (sd a 4 ++ r) = _
      rw [unP, (ih a (by simp) ha m).a4 (by omega) r h0]; rfl
/-- what is printed tells the formula -/
theorem said_inj {f g : Fm} (hf : Td f) (hg : Td g) (h : said f 1 = said g 1) : f = g := by
  have h1 := (read_all f hf (2 * (pre f).length + 2 * (pre g).length)).a1 (by omega) [] trivial rfl rfl rfl
  have h2 := (read_all g hg (2 * (pre f).length + 2 * (pre g).length)).a1 (by omega) [] trivial rfl rfl rfl
  rw [show sd f 1 = sd g 1 by unfold sd; rw [h], h2] at h1
  simp at h1
  exact h1.symm
end Go.Proofs.Ytliockncjdeloaa
