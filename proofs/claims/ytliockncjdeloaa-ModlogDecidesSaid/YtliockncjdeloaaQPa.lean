/-
  Plain law: what is printed tells the formula.
-/
import Derived.Test.YtliockncjdeloaaQMB
import Derived.Test.YtliockncjdeloaaQMK
namespace Go.Proofs.Ytliockncjdeloaa
open Go Go.Pv
set_option linter.unusedVariables false
set_option linter.unusedSimpArgs false
set_option maxRecDepth 100000

def Td (f : Fm) : Prop := ∀ x ∈ pre f, okN x
theorem Td.kid {f g : Fm} (h : Td f) (hg : g ∈ f.kids) : Td g := fun x hx => h x (by rw [pre_eq]; exact List.mem_cons_of_mem _ (pres_mem hx _ hg))
theorem Td.ok {f : Fm} (h : Td f) : OkF (fun n => isNameB n = true) f := okF_of_pre f h
theorem Td.nine {f : Fm} (h : Td f) : (∃ nm, isNameB nm = true ∧ f = .mk 1 nm []) ∨ (f = .mk 2 ⟨#[]⟩ []) ∨ (f = .mk 3 ⟨#[]⟩ []) ∨ (∃ a, Td a ∧ f = .mk 4 ⟨#[]⟩ [a]) ∨ (∃ a b, Td a ∧ Td b ∧ f = .mk 5 ⟨#[]⟩ [a, b]) ∨
    (∃ a b, Td a ∧ Td b ∧ f = .mk 6 ⟨#[]⟩ [a, b]) ∨ (∃ a b, Td a ∧ Td b ∧ f = .mk 7 ⟨#[]⟩ [a, b]) ∨ (∃ a, Td a ∧ f = .mk 8 ⟨#[]⟩ [a]) ∨ (∃ a, Td a ∧ f = .mk 9 ⟨#[]⟩ [a]) := by
  have hn := (h f (by rw [pre_eq]; exact List.mem_cons_self)).2.2
  rcases h.ok.nine with ⟨nm, hN, rfl⟩ | ⟨nm, rfl⟩ | ⟨nm, rfl⟩ | ⟨nm, a, ha, rfl⟩ | ⟨nm, a, b, ha, hb, rfl⟩ | ⟨nm, a, b, ha, hb, rfl⟩ | ⟨nm, a, b, ha, hb, rfl⟩ | ⟨nm, a, ha, rfl⟩ | ⟨nm, a, ha, rfl⟩
  all_goals simp only [Fm.kind, Fm.name] at hn
  · exact .inl ⟨nm, hN, rfl⟩
  all_goals obtain rfl : nm = ⟨#[]⟩ := by (refine Classical.byContradiction fun g => hn (.inr ⟨by decide, g⟩))
  · exact .inr (.inl rfl)
  · exact .inr (.inr (.inl rfl))
  · exact .inr (.inr (.inr (.inl ⟨a, h.kid (by simp [Fm.kids]), rfl⟩)))
  · exact .inr (.inr (.inr (.inr (.inl ⟨a, b, h.kid (by simp [Fm.kids]), h.kid (by simp [Fm.kids]), rfl⟩))))
  · exact .inr (.inr (.inr (.inr (.inr (.inl ⟨a, b, h.kid (by simp [Fm.kids]), h.kid (by simp [Fm.kids]), rfl⟩)))))
  · exact .inr (.inr (.inr (.inr (.inr (.inr (.inl ⟨a, b, h.kid (by simp [Fm.kids]), h.kid (by simp [Fm.kids]), rfl⟩))))))
  · exact .inr (.inr (.inr (.inr (.inr (.inr (.inr (.inl ⟨a, h.kid (by simp [Fm.kids]), rfl⟩)))))))
  · exact .inr (.inr (.inr (.inr (.inr (.inr (.inr (.inr ⟨a, h.kid (by simp [Fm.kids]), rfl⟩)))))))

abbrev Bs := List UInt8
def cut : Bs → Bs → Option Bs
  | [], r => some r
  | c :: cs, x :: r => if c = x then cut cs r else none
  | _ :: _, [] => none
theorem cut_app (c r : Bs) : cut c (c ++ r) = some r := by
  induction c with
  | nil => rfl
  | cons x c ih => simp [cut, ih]
def loopP (c : Bs) (k : Int) (Q : Bs → Option (Fm × Bs)) : Nat → Fm → Bs → Option (Fm × Bs)
  | 0, a, r => some (a, r)
  | m + 1, a, r => match cut c r with
    | none => some (a, r)
    | some r1 => match Q r1 with
      | none => none
      | some (b, r2) => loopP c k Q m (.mk k ⟨#[]⟩ [a, b]) r2
theorem loopP_stop {c : Bs} {k : Int} {Q : Bs → Option (Fm × Bs)} {a : Fm} {r : Bs} (h : cut c r = none) : ∀ m, loopP c k Q m a r = some (a, r)
  | 0 => rfl
  | m + 1 => by rw [loopP, h]
def unP (k : Int) (Q : Bs → Option (Fm × Bs)) (r : Bs) : Option (Fm × Bs) := (Q r).map fun p => (.mk k ⟨#[]⟩ [p.1], p.2)
def atomP (p1 p4 : Bs → Option (Fm × Bs)) (r : Bs) : Option (Fm × Bs) := match r with
  | [] => none
  | x :: r => if x = 49 then some (.mk 2 ⟨#[]⟩ [], r) else if x = 48 then some (.mk 3 ⟨#[]⟩ [], r) else if x = 126 then unP 4 p4 r else if x = 91 then unP 8 p4 (r.drop 1) else if x = 60 then unP 9 p4 (r.drop 1)
    else if x = 40 then (p1 r).map fun p => (p.1, p.2.drop 1) else some (.mk 1 ⟨((x :: r).takeWhile letterB).toArray⟩ [], (x :: r).dropWhile letterB)
def cAnd : Bs := [32, 38, 32]
def cOr : Bs := [32, 124, 32]
def cThen : Bs := [32, 45, 62, 32]
def p3P (n : Nat) (p4 : Bs → Option (Fm × Bs)) (r : Bs) : Option (Fm × Bs) := (p4 r).bind fun p => loopP cAnd 5 p4 n p.1 p.2
def p2P (n : Nat) (p3 : Bs → Option (Fm × Bs)) (r : Bs) : Option (Fm × Bs) := (p3 r).bind fun p => loopP cOr 6 p3 n p.1 p.2
def p1P (p2 p1 : Bs → Option (Fm × Bs)) (r : Bs) : Option (Fm × Bs) := (p2 r).bind fun p => match cut cThen p.2 with
  | none => some p
  | some r1 => (p1 r1).map fun q => (.mk 7 ⟨#[]⟩ [p.1, q.1], q.2)
def PP : Nat → (Bs → Option (Fm × Bs)) × (Bs → Option (Fm × Bs))
  | 0 => (fun _ => none, fun _ => none)
  | n + 1 => (atomP (PP n).2 (PP n).1, p1P (p2P (n + 1) (p3P (n + 1) (atomP (PP n).2 (PP n).1))) (PP n).2)
def nf : Bs → Prop
  | [] => True
  | x :: _ => letterB x = false
def sd (f : Fm) (lv : Int) : Bs := (said f lv).data.toList
theorem takeW (nm r : Bs) (h : nm.all letterB = true) (hr : nf r) : (nm ++ r).takeWhile letterB = nm ∧ (nm ++ r).dropWhile letterB = r := by
  induction nm with
  | nil =>
    cases r with
    | nil => exact ⟨rfl, rfl⟩
    | cons x r => simp [nf] at hr; simp [hr]
  | cons x nm ih =>
    simp only [List.all_cons, Bool.and_eq_true] at h
    simp [h.1, ih h.2]
theorem said_core (k : Int) (nm : ByteArray) (l : List Fm) : ∃ c : ByteArray, ∀ lv, said (.mk k nm l) lv = paren c k lv := ⟨_, fun lv => by rw [said]⟩
theorem levelN_pos (k : Int) : ¬ levelN k < 1 := by unfold levelN; split <;> (try split) <;> (try split) <;> omega
theorem sd_low {k : Int} {nm : ByteArray} {l : List Fm} {lv : Int} (h : levelN k < lv) : sd (.mk k nm l) lv = 40 :: (sd (.mk k nm l) 1 ++ [41]) := by
  obtain ⟨c, hc⟩ := said_core k nm l
  unfold sd
  rw [hc, hc, paren, paren, if_pos h, if_neg (levelN_pos k)]
  simp
theorem sd_high {k : Int} {nm : ByteArray} {l : List Fm} {lv : Int} (h : lv ≤ levelN k) : sd (.mk k nm l) lv = sd (.mk k nm l) 1 := by
  obtain ⟨c, hc⟩ := said_core k nm l
  unfold sd
  rw [hc, hc, paren, paren, if_neg (by omega), if_neg (levelN_pos k)]
theorem sd1 {nm : ByteArray} : sd (.mk 1 nm []) 1 = nm.data.toList := by unfold sd; rw [said]; rfl
theorem sd2 {nm : ByteArray} : sd (.mk 2 nm []) 1 = [49] := by unfold sd; rw [said]; rfl
theorem sd3 {nm : ByteArray} : sd (.mk 3 nm []) 1 = [48] := by unfold sd; rw [said]; rfl
theorem sd4 {nm : ByteArray} {a : Fm} : sd (.mk 4 nm [a]) 1 = 126 :: sd a 4 := by unfold sd; rw [said]; simp [saids, paren, levelN]
theorem sd8 {nm : ByteArray} {a : Fm} : sd (.mk 8 nm [a]) 1 = 91 :: 93 :: sd a 4 := by unfold sd; rw [said]; simp [saids, paren, levelN]
theorem sd9 {nm : ByteArray} {a : Fm} : sd (.mk 9 nm [a]) 1 = 60 :: 62 :: sd a 4 := by unfold sd; rw [said]; simp [saids, paren, levelN]
theorem sd5 {nm : ByteArray} {a b : Fm} : sd (.mk 5 nm [a, b]) 1 = sd a 3 ++ (cAnd ++ sd b 4) := by unfold sd; rw [said]; simp [saids, paren, levelN, cAnd]
theorem sd6 {nm : ByteArray} {a b : Fm} : sd (.mk 6 nm [a, b]) 1 = sd a 2 ++ (cOr ++ sd b 3) := by unfold sd; rw [said]; simp [saids, paren, levelN, cOr]
theorem sd7 {nm : ByteArray} {a b : Fm} : sd (.mk 7 nm [a, b]) 1 = sd a 2 ++ (cThen ++ sd b 1) := by unfold sd; rw [said]; simp [saids, paren, levelN, cThen]

structure Read (n : Nat) (f : Fm) : Prop where
  a1 : 2 * (pre f).length ≤ n → ∀ r, nf r → cut cAnd r = none → cut cOr r = none → cut cThen r = none → (PP n).2 (sd f 1 ++ r) = some (f, r)
  a4 : 2 * (pre f).length + 1 ≤ n → ∀ r, nf r → (PP n).1 (sd f 4 ++ r) = some (f, r)
  a3 : 2 * (pre f).length + 1 ≤ n → ∀ r, nf r → ∃ k, k < (pre f).length ∧ ∀ m, k ≤ m → ((PP n).1 (sd f 3 ++ r)).bind (fun p => loopP cAnd 5 (PP n).1 m p.1 p.2) = loopP cAnd 5 (PP n).1 (m - k) f r
  a2 : 2 * (pre f).length + 1 ≤ n → ∀ r, nf r → cut cAnd r = none → ∃ k, k < (pre f).length ∧ ∀ m, k ≤ m → (p3P n (PP n).1 (sd f 2 ++ r)).bind (fun p => loopP cOr 6 (p3P n (PP n).1) m p.1 p.2) = loopP cOr 6 (p3P n (PP n).1) (m - k) f r
theorem PP1 (n : Nat) : (PP (n + 1)).1 = atomP (PP n).2 (PP n).1 := rfl
theorem PP2 (n : Nat) : (PP (n + 1)).2 = p1P (p2P (n + 1) (p3P (n + 1) (PP (n + 1)).1)) (PP n).2 := rfl
theorem loopP_at {c : Bs} {k : Int} {Q : Bs → Option (Fm × Bs)} {a b : Fm} {r r2 : Bs} {m : Nat} (hQ : Q r = some (b, r2)) : loopP c k Q (m + 1) a (c ++ r) = loopP c k Q m (.mk k ⟨#[]⟩ [a, b]) r2 := by
  rw [loopP, cut_app]; dsimp only; rw [hQ]
/-- an atom, read as such -/
theorem up3 {n : Nat} {f : Fm} {i r : Bs} (h : (PP n).1 (i ++ r) = some (f, r)) : ∃ k, k < (pre f).length ∧ ∀ m, k ≤ m → ((PP n).1 (i ++ r)).bind (fun p => loopP cAnd 5 (PP n).1 m p.1 p.2) = loopP cAnd 5 (PP n).1 (m - k) f r :=
  ⟨0, by have := pre_pos f; omega, fun m _ => by rw [h]; rfl⟩
theorem to3 {n : Nat} {f : Fm} {i r : Bs} (hn : (pre f).length ≤ n) (hr : cut cAnd r = none) (h : ∃ k, k < (pre f).length ∧ ∀ m, k ≤ m → ((PP n).1 (i ++ r)).bind (fun p => loopP cAnd 5 (PP n).1 m p.1 p.2) = loopP cAnd 5 (PP n).1 (m - k) f r) : p3P n (PP n).1 (i ++ r) = some (f, r) := by
  obtain ⟨k, hk, h⟩ := h
  unfold p3P
  rw [h n (by omega), loopP_stop hr]
theorem up2 {n : Nat} {f : Fm} {i r : Bs} (h : p3P n (PP n).1 (i ++ r) = some (f, r)) : ∃ k, k < (pre f).length ∧ ∀ m, k ≤ m → (p3P n (PP n).1 (i ++ r)).bind (fun p => loopP cOr 6 (p3P n (PP n).1) m p.1 p.2) = loopP cOr 6 (p3P n (PP n).1) (m - k) f r :=
  ⟨0, by have := pre_pos f; omega, fun m _ => by rw [h]; rfl⟩
theorem to2 {n : Nat} {f : Fm} {i r : Bs} (hn : (pre f).length ≤ n) (hr : cut cOr r = none) (h : ∃ k, k < (pre f).length ∧ ∀ m, k ≤ m → (p3P n (PP n).1 (i ++ r)).bind (fun p => loopP cOr 6 (p3P n (PP n).1) m p.1 p.2) = loopP cOr 6 (p3P n (PP n).1) (m - k) f r) : p2P n (p3P n (PP n).1) (i ++ r) = some (f, r) := by
  obtain ⟨k, hk, h⟩ := h
  unfold p2P
  rw [h n (by omega), loopP_stop hr]
theorem to1 {n : Nat} {f : Fm} {i r : Bs} (hr : cut cThen r = none) (h : p2P (n + 1) (p3P (n + 1) (PP (n + 1)).1) (i ++ r) = some (f, r)) : (PP (n + 1)).2 (i ++ r) = some (f, r) := by
  rw [PP2, p1P, h]
  simp only [Option.bind_some]
  rw [hr]
/-- what stands in brackets -/
theorem braced {n : Nat} {f : Fm} {r : Bs} (h : (PP n).2 (sd f 1 ++ (41 :: r)) = some (f, 41 :: r)) : (PP (n + 1)).1 ((40 :: (sd f 1 ++ [41])) ++ r) = some (f, r) := by
  rw [PP1]
  simp only [List.cons_append, List.append_assoc, List.nil_append, atomP]
  rw [h]; rfl
theorem bracedA {f : Fm} (A1 : ∀ n, 2 * (pre f).length ≤ n → ∀ r, nf r → cut cAnd r = none → cut cOr r = none → cut cThen r = none → (PP n).2 (sd f 1 ++ r) = some (f, r)) (n : Nat) (hn : 2 * (pre f).length + 1 ≤ n) (r : Bs) : (PP n).1 ((40 :: (sd f 1 ++ [41])) ++ r) = some (f, r) := by
  obtain ⟨m, rfl⟩ : ∃ m, n = m + 1 := ⟨n - 1, by omega⟩
  exact braced (A1 m (by omega) _ rfl rfl rfl rfl)
theorem read4 {k : Int} {nm : ByteArray} {l : List Fm} (hk : levelN k = 4) (core : ∀ n, 2 * (pre (.mk k nm l)).length ≤ n → ∀ r, nf r → (PP n).1 (sd (.mk k nm l) 1 ++ r) = some (.mk k nm l, r)) (n : Nat) : Read n (.mk k nm l) where
  a1 := fun hn r h0 h1 h2 h3 => by
    obtain ⟨m, rfl⟩ : ∃ m, n = m + 1 := ⟨n - 1, by have := pre_pos (.mk k nm l); omega⟩
    exact to1 h3 (to2 (by omega) h2 (up2 (to3 (by omega) h1 (up3 (core _ hn r h0)))))
  a4 := fun hn r h0 => by rw [sd_high (by omega)]; exact core n (by omega) r h0
  a3 := fun hn r h0 => by rw [sd_high (by omega)]; exact up3 (core n (by omega) r h0)
  a2 := fun hn r h0 h1 => by rw [sd_high (by omega)]; exact up2 (to3 (by omega) h1 (up3 (core n (by omega) r h0)))
theorem read3 {k : Int} {nm : ByteArray} {l : List Fm} (hk : levelN k = 3) (core : ∀ n, 2 * (pre (.mk k nm l)).length ≤ n → ∀ r, nf r → ∃ j, j < (pre (.mk k nm l)).length ∧ ∀ m, j ≤ m → ((PP n).1 (sd (.mk k nm l) 1 ++ r)).bind (fun p => loopP cAnd 5 (PP n).1 m p.1 p.2) = loopP cAnd 5 (PP n).1 (m - j) (.mk k nm l) r) (n : Nat) : Read n (.mk k nm l) :=
  have A1 : ∀ n, 2 * (pre (.mk k nm l)).length ≤ n → ∀ r, nf r → cut cAnd r = none → cut cOr r = none → cut cThen r = none → (PP n).2 (sd (.mk k nm l) 1 ++ r) = some (.mk k nm l, r) := fun n hn r h0 h1 h2 h3 => by
    obtain ⟨m, rfl⟩ : ∃ m, n = m + 1 := ⟨n - 1, by have := pre_pos (.mk k nm l); omega⟩
    exact to1 h3 (to2 (by omega) h2 (up2 (to3 (by omega) h1 (core _ hn r h0))))
  { a1 := A1 n
    a4 := fun hn r h0 => by rw [sd_low (by omega)]; exact bracedA A1 n hn r
    a3 := fun hn r h0 => by rw [sd_high (by omega)]; exact core n (by omega) r h0
    a2 := fun hn r h0 h1 => by rw [sd_high (by omega)]; exact up2 (to3 (by omega) h1 (core n (by omega) r h0)) }
theorem read2 {k : Int} {nm : ByteArray} {l : List Fm} (hk : levelN k = 2) (core : ∀ n, 2 * (pre (.mk k nm l)).length ≤ n → ∀ r, nf r → cut cAnd r = none → ∃ j, j < (pre (.mk k nm l)).length ∧ ∀ m, j ≤ m → (p3P n (PP n).1 (sd (.mk k nm l) 1 ++ r)).bind (fun p => loopP cOr 6 (p3P n (PP n).1) m p.1 p.2) = loopP cOr 6 (p3P n (PP n).1) (m - j) (.mk k nm l) r) (n : Nat) : Read n (.mk k nm l) :=
  have A1 : ∀ n, 2 * (pre (.mk k nm l)).length ≤ n → ∀ r, nf r → cut cAnd r = none → cut cOr r = none → cut cThen r = none → (PP n).2 (sd (.mk k nm l) 1 ++ r) = some (.mk k nm l, r) := fun n hn r h0 h1 h2 h3 => by
    obtain ⟨m, rfl⟩ : ∃ m, n = m + 1 := ⟨n - 1, by have := pre_pos (.mk k nm l); omega⟩
    exact to1 h3 (to2 (by omega) h2 (core _ hn r h0 h1))
  { a1 := A1 n
    a4 := fun hn r h0 => by rw [sd_low (by omega)]; exact bracedA A1 n hn r
    a3 := fun hn r h0 => by rw [sd_low (by omega)]; exact up3 (bracedA A1 n hn r)
    a2 := fun hn r h0 h1 => by rw [sd_high (by omega)]; exact core n (by omega) r h0 h1 }
theorem read1 {k : Int} {nm : ByteArray} {l : List Fm} (hk : levelN k = 1) (A1 : ∀ n, 2 * (pre (.mk k nm l)).length ≤ n → ∀ r, nf r → cut cAnd r = none → cut cOr r = none → cut cThen r = none → (PP n).2 (sd (.mk k nm l) 1 ++ r) = some (.mk k nm l, r)) (n : Nat) : Read n (.mk k nm l) :=
  { a1 := A1 n
    a4 := fun hn r h0 => by rw [sd_low (by omega)]; exact bracedA A1 n hn r
    a3 := fun hn r h0 => by rw [sd_low (by omega)]; exact up3 (bracedA A1 n hn r)
    a2 := fun hn r h0 h1 => by rw [sd_low (by omega)]; exact up2 (to3 (by omega) h1 (up3 (bracedA A1 n hn r))) }
theorem nf_41 {r : Bs} : nf (41 :: r) := rfl
theorem cut_41 {r : Bs} : cut cAnd (41 :: r) = none ∧ cut cOr (41 :: r) = none ∧ cut cThen (41 :: r) = none := ⟨rfl, rfl, rfl⟩
theorem read_all (f : Fm) : Td f → ∀ n, Read n f := by
  induction f using Fm.ind with
  | h f ih =>
    intro h
    rcases h.nine with ⟨nm, hn, rfl⟩ | rfl | rfl | ⟨a, ha, rfl⟩ | ⟨a, b, ha, hb, rfl⟩ | ⟨a, b, ha, hb, rfl⟩ | ⟨a, b, ha, hb, rfl⟩ | ⟨a, ha, rfl⟩ | ⟨a, ha, rfl⟩
    · refine read4 rfl fun n hn' r h0 => ?_
      obtain ⟨m, rfl⟩ : ∃ m, n = m + 1 := ⟨n - 1, by rw [pre_len0] at hn'; omega⟩
      rw [sd1, PP1]
      simp only [isNameB, Bool.and_eq_true, decide_eq_true_eq] at hn
      have hsz : nm.data.toList.length = nm.size := Array.length_toList
      obtain ⟨t1, t2⟩ := takeW nm.data.toList r hn.2 h0
      have hnm : nm = ⟨nm.data.toList.toArray⟩ := by cases nm; exact congrArg ByteArray.mk Array.toArray_toList.symm
      generalize hl : nm.data.toList = cs at *
      cases cs with
      | nil => simp at hsz; omega
      | cons x cs =>
        have hx : letterB x = true := by have := hn.2; simp at this; exact this.1
        have hx2 : 97 ≤ x.toNat ∧ x.toNat ≤ 122 := by simpa [letterB] using hx
        have hne : ∀ c : UInt8, (c.toNat < 97 ∨ 122 < c.toNat) → x ≠ c := by rintro c hc rfl; omega
        simp only [List.cons_append, atomP] at t1 t2 ⊢
        rw [if_neg (hne _ (by decide)), if_neg (hne _ (by decide)), if_neg (hne _ (by decide)), if_neg (hne _ (by decide)), if_neg (hne _ (by decide)), if_neg (hne _ (by decide)), t1, t2, ← hnm]
    · refine read4 rfl fun n hn' r h0 => ?_
      obtain ⟨m, rfl⟩ : ∃ m, n = m + 1 := ⟨n - 1, by rw [pre_len0] at hn'; omega⟩
      rw [sd2, PP1]; rfl
    · refine read4 rfl fun n hn' r h0 => ?_
      obtain ⟨m, rfl⟩ : ∃ m, n = m + 1 := ⟨n - 1, by rw [pre_len0] at hn'; omega⟩
      rw [sd3, PP1]; rfl
    · refine read4 rfl fun n hn' r h0 => ?_
      rw [pre_len1] at hn'
      obtain ⟨m, rfl⟩ : ∃ m, n = m + 1 := ⟨n - 1, by omega⟩
      rw [sd4, PP1]
      show unP 4 (PP m).1 (sd a 4 ++ r) = _
      rw [unP, (ih a (by simp) ha m).a4 (by omega) r h0]; rfl
    · refine read3 rfl fun n hn' r h0 => ?_
      rw [pre_len2] at hn'
      obtain ⟨k, hk, h1⟩ := (ih a (by simp) ha n).a3 (by omega) (cAnd ++ (sd b 4 ++ r)) rfl
      refine ⟨k + 1, by rw [pre_len2]; omega, fun m hm => ?_⟩
      rw [sd5, List.append_assoc, List.append_assoc, h1 m (by omega), show m - k = (m - (k + 1)) + 1 by omega, loopP_at ((ih b (by simp) hb n).a4 (by omega) r h0)]
    · refine read2 rfl fun n hn' r h0 hc => ?_
      rw [pre_len2] at hn'
      obtain ⟨k, hk, h1⟩ := (ih a (by simp) ha n).a2 (by omega) (cOr ++ (sd b 3 ++ r)) rfl rfl
      refine ⟨k + 1, by rw [pre_len2]; omega, fun m hm => ?_⟩
      rw [sd6, List.append_assoc, List.append_assoc, h1 m (by omega), show m - k = (m - (k + 1)) + 1 by omega, loopP_at (to3 (by omega) hc ((ih b (by simp) hb n).a3 (by omega) r h0))]
    · refine read1 rfl fun n hn' r h0 h1 h2 h3 => ?_
      rw [pre_len2] at hn'
      obtain ⟨m, rfl⟩ : ∃ m, n = m + 1 := ⟨n - 1, by omega⟩
      rw [sd7, List.append_assoc, List.append_assoc, PP2, p1P, to2 (by omega) rfl ((ih a (by simp) ha (m + 1)).a2 (by omega) (cThen ++ (sd b 1 ++ r)) rfl rfl)]
      simp only [Option.bind_some]
      rw [cut_app]
      simp only
      rw [(ih b (by simp) hb m).a1 (by omega) r h0 h1 h2 h3]; rfl
    · refine read4 rfl fun n hn' r h0 => ?_
      rw [pre_len1] at hn'
      obtain ⟨m, rfl⟩ : ∃ m, n = m + 1 := ⟨n - 1, by omega⟩
      rw [sd8, PP1]
      show unP 8 (PP m).1 (sd a 4 ++ r) = _
      rw [unP, (ih a (by simp) ha m).a4 (by omega) r h0]; rfl
    · refine read4 rfl fun n hn' r h0 => ?_
      rw [pre_len1] at hn'
      obtain ⟨m, rfl⟩ : ∃ m, n = m + 1 := ⟨n - 1, by omega⟩
      rw [sd9, PP1]
      show unP 9 (PP m).1 (sd a 4 ++ r) = _
      rw [unP, (ih a (by simp) ha m).a4 (by omega) r h0]; rfl
/-- what is printed tells the formula -/
theorem said_inj {f g : Fm} (hf : Td f) (hg : Td g) (h : said f 1 = said g 1) : f = g := by
  have h1 := (read_all f hf (2 * (pre f).length + 2 * (pre g).length)).a1 (by omega) [] trivial rfl rfl rfl
  have h2 := (read_all g hg (2 * (pre f).length + 2 * (pre g).length)).a1 (by omega) [] trivial rfl rfl rfl
  rw [show sd f 1 = sd g 1 by unfold sd; rw [h], h2] at h1
  simp at h1
  exact h1.symm
end Go.Proofs.Ytliockncjdeloaa
namespace Go.Proofs.Ytliockncjdeloaa
open Go Go.Pv
set_option linter.unusedVariables false
set_option linter.unusedSimpArgs false
set_option maxRecDepth 100000

theorem Td.pre {f x : Fm} (h : Td f) (hx : x ∈ pre f) : Td x := fun y hy => h y ((pre_sub f h.ok x hx).2.2 y hy)
theorem mem_partsS {x : Fm} : ∀ (l : List Fm) (had : List ByteArray), (∀ y ∈ l, Td y) → x ∈ l → x ∈ partsS had l ∨ said x 1 ∈ had
  | y :: r, had, ht, h => by
    rw [partsS]
    have hr : ∀ z ∈ r, Td z := fun z hz => ht z (List.mem_cons_of_mem _ hz)
    split
    · rename_i hm
      rcases List.mem_cons.1 h with rfl | h
      · exact .inr (memB_iff.1 hm)
      · exact mem_partsS r had hr h
    · rcases List.mem_cons.1 h with rfl | h
      · exact .inl List.mem_cons_self
      · rcases mem_partsS r _ hr h with h1 | h1
        · exact .inl (List.mem_cons_of_mem _ h1)
        · rcases List.mem_append.1 h1 with h2 | h2
          · exact .inr h2
          · rw [List.mem_singleton] at h2
            rw [said_inj (ht _ List.mem_cons_self) (ht x (List.mem_cons_of_mem _ h)) h2.symm]
            exact .inl List.mem_cons_self
theorem partsS_not {x : Fm} : ∀ (l : List Fm) (had : List ByteArray), x ∈ partsS had l → said x 1 ∉ had
  | [], had, h => by cases h
  | y :: r, had, h => by
    rw [partsS] at h
    split at h
    · exact partsS_not r had h
    · rename_i hm
      rcases List.mem_cons.1 h with rfl | h
      · exact fun g => hm (memB_iff.2 g)
      · exact fun g => partsS_not r _ h (List.mem_append_left _ g)
theorem partsS_nodup : ∀ (l : List Fm) (had : List ByteArray), (partsS had l).Nodup
  | [], had => List.nodup_nil
  | y :: r, had => by
    rw [partsS]
    split
    · exact partsS_nodup r had
    · refine List.nodup_cons.2 ⟨fun h => partsS_not r _ h ?_, partsS_nodup r _⟩
      exact List.mem_append_right _ (List.mem_singleton.2 rfl)
/-- the parts of a formula: a list that is closed under parts, nothing twice, itself ahead -/
structure Parts (l : List Fm) : Prop where
  td : ∀ g ∈ l, Td g
  kid : ∀ g ∈ l, ∀ k ∈ g.kids, k ∈ l
  nd : l.Nodup
theorem partsS_head (f : Fm) : ∃ r, partsS [] (pre f) = f :: r := by
  rw [pre_eq, partsS]
  exact ⟨_, if_neg (by simp [memB])⟩
theorem parts_all {f : Fm} (h : Td f) : Parts (partsS [] (pre f)) where
  td := fun g hg => h.pre (partsS_mem hg)
  kid := fun g hg k hk => by
    have h1 := partsS_mem hg
    have h2 : k ∈ pre f := (pre_sub f h.ok g h1).2.2 k (by rw [pre_eq]; exact List.mem_cons_of_mem _ (pres_mem (by rw [pre_eq]; exact List.mem_cons_self) _ hk))
    rcases mem_partsS (pre f) [] (fun y hy => h.pre hy) h2 with h3 | h3
    · exact h3
    · cases h3
  nd := partsS_nodup _ _

section
variable {lg : Nat} {l : List Fm} {ws : List Nat} (P : Parts l)
include P
theorem kid_at {i j : Nat} {g k : Fm} (hg : l[i]? = some g) (hk : g.kids[j]? = some k) : ∃ m, l[m]? = some k ∧ (sceneOf lg l ws).kid i j = m := by
  obtain ⟨hi, hg'⟩ := List.getElem?_eq_some_iff.1 hg
  obtain ⟨hj, hk'⟩ := List.getElem?_eq_some_iff.1 hk
  have hmem : g ∈ l := hg' ▸ List.getElem_mem hi
  obtain ⟨m, hm, h1, h2⟩ := indexF_mem (P.kid g hmem k (hk' ▸ List.getElem_mem hj))
  refine ⟨m, by rw [List.getElem?_eq_getElem hm, h2], ?_⟩
  unfold Sc.kid sceneOf
  simp only [List.getElem?_map, hg, Option.map_some, Option.getD_some, kidsL, hk, idxF, h1]
  simp
end
theorem kind_at {lg : Nat} {l : List Fm} {ws : List Nat} {i : Nat} {g : Fm} (hg : l[i]? = some g) : (sceneOf lg l ws).kind i = g.kind := by
  unfold Sc.kind sceneOf; simp only [hg, Option.map_some, Option.getD_some]
theorem and_sans {x y : Nat} : sans x y = 0 ↔ ∀ i, x.testBit i = true → y.testBit i = true := by
  constructor
  · intro h i hx
    have : (sans x y).testBit i = false := by rw [h]; simp
    simp only [sans, Nat.testBit_xor, Nat.testBit_and, hx] at this
    simpa using this
  · intro h
    apply Nat.eq_of_testBit_eq
    intro i
    simp only [sans, Nat.testBit_xor, Nat.testBit_and, Nat.zero_testBit]
    have := h i
    cases hx : x.testBit i <;> cases hy : y.testBit i <;> simp_all
theorem kindB_at {l : List Fm} {k : Int} {i : Nat} {g : Fm} (hg : l[i]? = some g) : kindB l k i = decide (g.kind = k) := by unfold kindB; rw [hg]
theorem boxes_bit {lg : Nat} {l : List Fm} {ws : List Nat} {i : Nat} : (sceneOf lg l ws).boxes.testBit i = true ↔ ∃ g, l[i]? = some g ∧ g.kind = 8 := by
  show (bitsN (kindB l 8) l.length).testBit i = true ↔ _
  rw [bitsN_bit, Bool.and_eq_true, decide_eq_true_eq]
  constructor
  · rintro ⟨h1, h2⟩
    rw [kindB_at (List.getElem?_eq_getElem h1)] at h2
    exact ⟨_, List.getElem?_eq_getElem h1, by simpa using h2⟩
  · rintro ⟨g, h1, h2⟩
    exact ⟨(List.getElem?_eq_some_iff.1 h1).1, by rw [kindB_at h1]; simpa using h2⟩
theorem dias_bit {lg : Nat} {l : List Fm} {ws : List Nat} {i : Nat} : (sceneOf lg l ws).dias.testBit i = true ↔ ∃ g, l[i]? = some g ∧ g.kind = 9 := by
  show (bitsN (kindB l 9) l.length).testBit i = true ↔ _
  rw [bitsN_bit, Bool.and_eq_true, decide_eq_true_eq]
  constructor
  · rintro ⟨h1, h2⟩
    rw [kindB_at (List.getElem?_eq_getElem h1)] at h2
    exact ⟨_, List.getElem?_eq_getElem h1, by simpa using h2⟩
  · rintro ⟨g, h1, h2⟩
    exact ⟨(List.getElem?_eq_some_iff.1 h1).1, by rw [kindB_at h1]; simpa using h2⟩
section
variable {lg : Nat} {l : List Fm} {ws : List Nat} {x y : Nat}
theorem ahead_iff : (sceneOf lg l ws).ahead x y = true ↔ ∀ i g, l[i]? = some g → (g.kind = 8 → x.testBit i = true → y.testBit ((sceneOf lg l ws).kid i 0) = true) ∧ (g.kind = 9 → y.testBit ((sceneOf lg l ws).kid i 0) = true → x.testBit i = true) := by
  unfold Sc.ahead
  rw [List.all_eq_true]
  constructor
  · intro h i g hg
    have h1 := h i (List.mem_range.2 (List.getElem?_eq_some_iff.1 hg).1)
    unfold Sc.step at h1
    rw [kind_at hg] at h1
    refine ⟨fun hk hx => ?_, fun hk hy => ?_⟩
    · rw [hk, hx] at h1
      cases hb : y.testBit ((sceneOf lg l ws).kid i 0) <;> simp_all
    · rw [hk, hy] at h1
      cases hb : x.testBit i <;> simp_all
  · intro h i hi
    have hi : i < l.length := List.mem_range.1 hi
    obtain ⟨h1, h2⟩ := h i _ (List.getElem?_eq_getElem hi)
    unfold Sc.step
    rw [kind_at (List.getElem?_eq_getElem hi)]
    by_cases h8 : (l[i]'hi).kind = 8
    · have := h1 h8
      simp only [h8]
      cases hx : x.testBit i <;> simp_all
    · by_cases h9 : (l[i]'hi).kind = 9
      · have := h2 h9
        simp only [h9]
        cases hy : y.testBit ((sceneOf lg l ws).kid i 0) <;> simp_all
      · simp [h8, h9]
theorem more_iff : (sceneOf lg l ws).more x y = true ↔ ∀ i g, l[i]? = some g → (g.kind = 8 → x.testBit i = true → y.testBit i = true) ∧ (g.kind = 9 → y.testBit i = true → x.testBit i = true) := by
  unfold Sc.more
  rw [Bool.and_eq_true, decide_eq_true_eq, decide_eq_true_eq, and_sans, and_sans]
  simp only [Nat.testBit_and, Bool.and_eq_true]
  constructor
  · rintro ⟨h1, h2⟩ i g hg
    exact ⟨fun hk hx => h1 i ⟨hx, boxes_bit.2 ⟨g, hg, hk⟩⟩, fun hk hy => h2 i ⟨hy, dias_bit.2 ⟨g, hg, hk⟩⟩⟩
  · intro h
    refine ⟨fun i ⟨hx, hb⟩ => ?_, fun i ⟨hy, hb⟩ => ?_⟩
    · obtain ⟨g, hg, hk⟩ := boxes_bit.1 hb
      exact (h i g hg).1 hk hx
    · obtain ⟨g, hg, hk⟩ := dias_bit.1 hb
      exact (h i g hg).2 hk hy
theorem alike_iff : (sceneOf lg l ws).alike x y = true ↔ ∀ i g, l[i]? = some g → (g.kind = 8 ∨ g.kind = 9) → x.testBit i = y.testBit i := by
  unfold Sc.alike
  rw [decide_eq_true_eq]
  constructor
  · intro h i g hg hk
    have h1 := congrArg (fun z => z.testBit i) h
    simp only [Nat.testBit_and, Nat.testBit_or] at h1
    have : ((sceneOf lg l ws).boxes.testBit i || (sceneOf lg l ws).dias.testBit i) = true := by
      rw [Bool.or_eq_true]
      exact hk.imp (fun hk => boxes_bit.2 ⟨g, hg, hk⟩) (fun hk => dias_bit.2 ⟨g, hg, hk⟩)
    rw [this] at h1
    simpa using h1
  · intro h
    apply Nat.eq_of_testBit_eq
    intro i
    simp only [Nat.testBit_and, Nat.testBit_or]
    cases hb : ((sceneOf lg l ws).boxes.testBit i || (sceneOf lg l ws).dias.testBit i)
    · simp
    · rw [Bool.or_eq_true] at hb
      have : x.testBit i = y.testBit i := by
        rcases hb with hb | hb
        · obtain ⟨g, hg, hk⟩ := boxes_bit.1 hb; exact h i g hg (.inl hk)
        · obtain ⟨g, hg, hk⟩ := dias_bit.1 hb; exact h i g hg (.inr hk)
      rw [this]
end
end Go.Proofs.Ytliockncjdeloaa
namespace Go.Proofs.Ytliockncjdeloaa
open Go Go.Pv
set_option linter.unusedVariables false
set_option linter.unusedSimpArgs false
set_option linter.unusedSectionVars false
set_option maxRecDepth 100000

section
variable {n : Nat} {t : Nat → Nat → Bool} {hold : Nat → ByteArray → Bool} {w : Nat} {nm : ByteArray} {l : List Fm} {a b : Fm}
theorem ev_1 : ev n t hold (.mk 1 nm l) w = hold w nm := by simp [ev]
theorem ev_2 : ev n t hold (.mk 2 nm l) w = true := by simp [ev]
theorem ev_3 : ev n t hold (.mk 3 nm l) w = false := by simp [ev]
theorem ev_4 : ev n t hold (.mk 4 nm [a]) w = !ev n t hold a w := by simp [ev, evs]
theorem ev_5 : ev n t hold (.mk 5 nm [a, b]) w = (ev n t hold a w && ev n t hold b w) := by simp [ev, evs]
theorem ev_6 : ev n t hold (.mk 6 nm [a, b]) w = (ev n t hold a w || ev n t hold b w) := by simp [ev, evs]
theorem ev_7 : ev n t hold (.mk 7 nm [a, b]) w = (!ev n t hold a w || ev n t hold b w) := by simp [ev, evs]
theorem ev_8 : ev n t hold (.mk 8 nm [a]) w = true ↔ ∀ v, v < n → t w v = true → ev n t hold a v = true := by
  simp [ev, evs]
  exact ⟨fun h v hv ht => by have := h v hv; rw [ht] at this; simpa using this, fun h v hv => by cases ht : t w v <;> simp [h v hv, ht]⟩
theorem ev_9 : ev n t hold (.mk 9 nm [a]) w = true ↔ ∃ v, v < n ∧ t w v = true ∧ ev n t hold a v = true := by simp [ev, evs]
end
theorem ev_8f {n : Nat} {t : Nat → Nat → Bool} {hold : Nat → ByteArray → Bool} {w : Nat} {nm : ByteArray} {a : Fm} : ev n t hold (.mk 8 nm [a]) w = false ↔ ∃ v, v < n ∧ t w v = true ∧ ev n t hold a v = false := by
  rw [← Bool.not_eq_true, ev_8]
  constructor
  · intro h
    refine Classical.byContradiction fun g => h fun v hv ht => ?_
    cases he : ev n t hold a v
    · exact absurd ⟨v, hv, ht, he⟩ g
    · rfl
  · rintro ⟨v, hv, ht, he⟩ h
    rw [h v hv ht] at he; cases he

/-- the finite models of a logic -/
structure Frame (lg n : Nat) (t : Nat → Nat → Bool) : Prop where
  ser : lg = 2 → ∀ u, u < n → ∃ v, v < n ∧ t u v = true
  refl : lg = 3 ∨ lg = 5 ∨ lg = 6 ∨ lg = 7 → ∀ u, u < n → t u u = true
  trans : lg = 4 ∨ lg = 5 ∨ lg = 6 ∨ lg = 8 → ∀ u v w, u < n → v < n → w < n → t u v = true → t v w = true → t u w = true
  symm : lg = 6 ∨ lg = 7 → ∀ u v, u < n → v < n → t u v = true → t v u = true
  irr : lg = 8 → ∀ u, u < n → t u u = false
def ValidF (lg : Nat) (f : Fm) : Prop := ∀ n t hold, Frame lg n t → ∀ w, w < n → ev n t hold f w = true

/-- in a finite order, what is above is above some last one -/
theorem last_one {n : Nat} {t : Nat → Nat → Bool} (ht : ∀ u v w, u < n → v < n → w < n → t u v = true → t v w = true → t u w = true) (hi : ∀ u, u < n → t u u = false) (p : Nat → Prop) :
    ∀ m v, v < n → p v → ((List.range n).filter (t v)).length ≤ m → ∃ u, u < n ∧ p u ∧ (u = v ∨ t v u = true) ∧ ∀ x, x < n → t u x = true → ¬ p x := by
  intro m
  induction m with
  | zero =>
    intro v hv hp hm
    refine ⟨v, hv, hp, .inl rfl, fun x hx htx => ?_⟩
    have : x ∈ (List.range n).filter (t v) := List.mem_filter.2 ⟨List.mem_range.2 hx, htx⟩
    have := List.length_pos_of_mem this
    omega
  | succ m ih =>
    intro v hv hp hm
    by_cases h : ∃ x, x < n ∧ t v x = true ∧ p x
    · obtain ⟨x, hx, htx, hpx⟩ := h
      have hle : ((List.range n).filter (t x)).length < ((List.range n).filter (t v)).length := by
        have h1 : ((List.range n).filter (t x)).Nodup := List.Pairwise.filter _ List.nodup_range
        have h2 : x ∉ (List.range n).filter (t x) := fun h => by
          have := (List.mem_filter.1 h).2; rw [hi x hx] at this; cases this
        have h3 := nodup_le (x :: (List.range n).filter (t x)) ((List.range n).filter (t v)) (List.nodup_cons.2 ⟨h2, h1⟩) fun y hy => by
          rcases List.mem_cons.1 hy with rfl | hy
          · exact List.mem_filter.2 ⟨List.mem_range.2 hx, htx⟩
          · obtain ⟨g1, g2⟩ := List.mem_filter.1 hy
            exact List.mem_filter.2 ⟨g1, ht v x y hv hx (List.mem_range.1 g1) htx g2⟩
        simp at h3; omega
      obtain ⟨u, hu, hpu, h4, h5⟩ := ih x hx hpx (by omega)
      refine ⟨u, hu, hpu, .inr ?_, h5⟩
      rcases h4 with rfl | h4
      · exact htx
      · exact ht v x u hv hx hu htx h4
    · exact ⟨v, hv, hp, .inl rfl, fun x hx htx hpx => h ⟨x, hx, htx, hpx⟩⟩
theorem last_of {n : Nat} {t : Nat → Nat → Bool} (ht : ∀ u v w, u < n → v < n → w < n → t u v = true → t v w = true → t u w = true) (hi : ∀ u, u < n → t u u = false) (p : Nat → Prop) {w v : Nat} (hw : w < n) (hv : v < n) (hwv : t w v = true) (hp : p v) :
    ∃ u, u < n ∧ t w u = true ∧ p u ∧ ∀ x, x < n → t u x = true → ¬ p x := by
  obtain ⟨u, hu, h1, h2, h3⟩ := last_one ht hi p _ v hv hp (Nat.le_refl _)
  refine ⟨u, hu, ?_, h1, h3⟩
  rcases h2 with rfl | h2
  · exact hwv
  · exact ht w v u hw hv hu hwv h2

theorem sees_iff {lg : Nat} {l : List Fm} {ws : List Nat} {x y : Nat} : (sceneOf lg l ws).sees x y = true ↔ (sceneOf lg l ws).ahead x y = true ∧ (lg = 4 ∨ lg = 5 ∨ lg = 8 → (sceneOf lg l ws).more x y = true) ∧ (lg = 6 → (sceneOf lg l ws).alike x y = true) ∧ (lg = 7 → (sceneOf lg l ws).ahead y x = true) ∧ (lg = 8 → (sceneOf lg l ws).alike x y = false) := by
  unfold Sc.sees
  rw [show (sceneOf lg l ws).lg = lg from rfl]
  generalize (sceneOf lg l ws).ahead x y = p1
  generalize (sceneOf lg l ws).more x y = p2
  generalize (sceneOf lg l ws).alike x y = p3
  generalize (sceneOf lg l ws).ahead y x = p4
  split
  · rename_i h
    simp only [Bool.and_eq_true]
    constructor
    · rintro ⟨h1, h2⟩; exact ⟨h1, fun _ => h2, fun g => by omega, fun g => by omega, fun g => by omega⟩
    · rintro ⟨h1, h2, _⟩; exact ⟨h1, h2 (by omega)⟩
  · split
    · simp only [Bool.and_eq_true]
      constructor
      · rintro ⟨h1, h2⟩; exact ⟨h1, fun g => by omega, fun _ => h2, fun g => by omega, fun g => by omega⟩
      · rintro ⟨h1, _, h2, _⟩; exact ⟨h1, h2 (by omega)⟩
    · split
      · simp only [Bool.and_eq_true]
        constructor
        · rintro ⟨h1, h2⟩; exact ⟨h1, fun g => by omega, fun g => by omega, fun _ => h2, fun g => by omega⟩
        · rintro ⟨h1, _, _, h2, _⟩; exact ⟨h1, h2 (by omega)⟩
      · split
        · simp only [Bool.and_eq_true, Bool.not_eq_true']
          constructor
          · rintro ⟨⟨h1, h2⟩, h3⟩; exact ⟨h1, fun g => h2, fun g => by omega, fun g => by omega, fun _ => h3⟩
          · rintro ⟨h1, h2, _, _, h3⟩; exact ⟨⟨h1, h2 (by omega)⟩, h3 (by omega)⟩
        · constructor
          · intro h1; exact ⟨h1, fun g => by omega, fun g => by omega, fun g => by omega, fun g => by omega⟩
          · exact fun h => h.1

section
variable {lg : Nat} {l : List Fm} (P : Parts l) {n : Nat} {t : Nat → Nat → Bool} {hold : Nat → ByteArray → Bool} (F : Frame lg n t) {ws : List Nat}
/-- what is true at a world, as a set -/
def typ (l : List Fm) (n : Nat) (t : Nat → Nat → Bool) (hold : Nat → ByteArray → Bool) (w : Nat) : Nat := bitsN (fun i => match l[i]? with | some g => ev n t hold g w | none => false) l.length
theorem typ_bit {w i : Nat} {g : Fm} (hg : l[i]? = some g) : (typ l n t hold w).testBit i = ev n t hold g w := by
  unfold typ
  rw [bitsN_bit]
  simp only [hg, (List.getElem?_eq_some_iff.1 hg).1, decide_true, Bool.true_and]
include P
theorem typ_kid {w i j : Nat} {g k : Fm} (hg : l[i]? = some g) (hk : g.kids[j]? = some k) : (typ l n t hold w).testBit ((sceneOf lg l ws).kid i j) = ev n t hold k w := by
  obtain ⟨m, h1, h2⟩ := kid_at (lg := lg) (ws := ws) P hg hk
  rw [h2, typ_bit h1]
include F
theorem typ_locl {w : Nat} (hw : w < n) : (sceneOf lg l ws).locl (typ l n t hold w) = true := by
  unfold Sc.locl
  rw [List.all_eq_true]
  intro i hi
  have hil : i < l.length := List.mem_range.1 hi
  have hg := List.getElem?_eq_getElem hil
  generalize hgg : l[i] = g at hg
  have htd : Td g := P.td g (hgg ▸ List.getElem_mem hil)
  have hkind := kind_at (lg := lg) (ws := ws) hg
  have hk := fun j k h => typ_kid (lg := lg) (ws := ws) (n := n) (t := t) (hold := hold) (w := w) P hg (j := j) (k := k) h
  simp only [beq_iff_eq, Sc.want, hkind, typ_bit hg]
  have hr : (sceneOf lg l ws).refl = true → lg = 3 ∨ lg = 5 ∨ lg = 6 ∨ lg = 7 := fun h => by unfold Sc.refl at h; exact of_decide_eq_true h
  rcases htd.nine with ⟨nm, hn, rfl⟩ | rfl | rfl | ⟨a, ha, rfl⟩ | ⟨a, b, ha, hb, rfl⟩ | ⟨a, b, ha, hb, rfl⟩ | ⟨a, b, ha, hb, rfl⟩ | ⟨a, ha, rfl⟩ | ⟨a, ha, rfl⟩
  all_goals simp only [Fm.kind]
  · simp
  · simp [ev_2]
  · simp [ev_3]
  · simp [ev_4, hk 0 a rfl]
  · simp [ev_5, hk 0 a rfl, hk 1 b rfl]
  · simp [ev_6, hk 0 a rfl, hk 1 b rfl]
  · simp [ev_7, hk 0 a rfl, hk 1 b rfl]
  · simp only [hk 0 a rfl]
    cases he : ev n t hold (.mk 8 ⟨#[]⟩ [a]) w
    · simp
    · cases hrf : (sceneOf lg l ws).refl
      · simp
      · have := ev_8.1 he w hw (F.refl (hr hrf) w hw)
        simp [this]
  · simp only [hk 0 a rfl]
    cases he : ev n t hold (.mk 9 ⟨#[]⟩ [a]) w
    · cases hrf : (sceneOf lg l ws).refl
      · simp
      · cases hea : ev n t hold a w
        · simp
        · have := ev_9 (nm := ⟨#[]⟩).2 ⟨w, hw, F.refl (hr hrf) w hw, hea⟩
          rw [he] at this; cases this
    · simp
theorem typ_ahead {w v : Nat} (hw : w < n) (hv : v < n) (ht : t w v = true) : (sceneOf lg l ws).ahead (typ l n t hold w) (typ l n t hold v) = true := by
  refine ahead_iff.2 fun i g hg => ?_
  have htd : Td g := P.td g (List.mem_of_getElem? hg)
  rw [typ_bit hg]
  rcases htd.nine with ⟨nm, hn, rfl⟩ | rfl | rfl | ⟨a, ha, rfl⟩ | ⟨a, b, ha, hb, rfl⟩ | ⟨a, b, ha, hb, rfl⟩ | ⟨a, b, ha, hb, rfl⟩ | ⟨a, ha, rfl⟩ | ⟨a, ha, rfl⟩
  all_goals simp only [Fm.kind]
  all_goals try exact ⟨fun h => absurd h (by decide), fun h => absurd h (by decide)⟩
  · refine ⟨fun _ he => ?_, fun h => absurd h (by decide)⟩
    rw [typ_kid P hg (show (Fm.mk 8 ⟨#[]⟩ [a]).kids[0]? = some a from rfl)]
    exact ev_8.1 he v hv ht
  · refine ⟨fun h => absurd h (by decide), fun _ he => ?_⟩
    rw [typ_kid P hg (show (Fm.mk 9 ⟨#[]⟩ [a]).kids[0]? = some a from rfl)] at he
    exact ev_9.2 ⟨v, hv, ht, he⟩
theorem typ_more {w v : Nat} (hw : w < n) (hv : v < n) (ht : t w v = true) (hl : lg = 4 ∨ lg = 5 ∨ lg = 6 ∨ lg = 8) : (sceneOf lg l ws).more (typ l n t hold w) (typ l n t hold v) = true := by
  refine more_iff.2 fun i g hg => ?_
  have htd : Td g := P.td g (List.mem_of_getElem? hg)
  rw [typ_bit hg, typ_bit hg]
  rcases htd.nine with ⟨nm, hn, rfl⟩ | rfl | rfl | ⟨a, ha, rfl⟩ | ⟨a, b, ha, hb, rfl⟩ | ⟨a, b, ha, hb, rfl⟩ | ⟨a, b, ha, hb, rfl⟩ | ⟨a, ha, rfl⟩ | ⟨a, ha, rfl⟩
  all_goals simp only [Fm.kind]
  all_goals try exact ⟨fun h => absurd h (by decide), fun h => absurd h (by decide)⟩
  · refine ⟨fun _ he => ?_, fun h => absurd h (by decide)⟩
    exact ev_8.2 fun u hu htu => ev_8.1 he u hu (F.trans hl w v u hw hv hu ht htu)
  · refine ⟨fun h => absurd h (by decide), fun _ he => ?_⟩
    obtain ⟨u, hu, htu, h⟩ := ev_9.1 he
    exact ev_9.2 ⟨u, hu, F.trans hl w v u hw hv hu ht htu, h⟩
theorem typ_sees {w v : Nat} (hw : w < n) (hv : v < n) (ht : t w v = true) (h8 : lg = 8 → (sceneOf lg l ws).alike (typ l n t hold w) (typ l n t hold v) = false) : (sceneOf lg l ws).sees (typ l n t hold w) (typ l n t hold v) = true := by
  refine sees_iff.2 ⟨typ_ahead P F hw hv ht, fun h => typ_more P F hw hv ht (by omega), fun h => ?_, fun h => typ_ahead P F hv hw (F.symm (.inr h) w v hw hv ht), h8⟩
  have h1 := more_iff.1 (typ_more (hold := hold) (ws := ws) P F hw hv ht (by omega))
  have h2 := more_iff.1 (typ_more (hold := hold) (ws := ws) P F hv hw (F.symm (.inl h) w v hw hv ht) (by omega))
  refine alike_iff.2 fun i g hg hk => ?_
  have g1 := h1 i g hg
  have g2 := h2 i g hg
  rw [Bool.eq_iff_iff]
  rcases hk with hk | hk
  · exact ⟨g1.1 hk, g2.1 hk⟩
  · exact ⟨g2.2 hk, g1.2 hk⟩
end
end Go.Proofs.Ytliockncjdeloaa
namespace Go.Proofs.Ytliockncjdeloaa
open Go Go.Pv
set_option linter.unusedVariables false
set_option linter.unusedSimpArgs false
set_option linter.unusedSectionVars false
set_option maxRecDepth 100000

section
variable {lg : Nat} {l : List Fm} (P : Parts l) {n : Nat} {t : Nat → Nat → Bool} {hold : Nat → ByteArray → Bool} (F : Frame lg n t) {ws : List Nat}
include P F
theorem typ_fine (hI : ∀ v, v < n → typ l n t hold v ∈ ws) {w : Nat} (hw : w < n) {i : Nat} (hil : i < l.length) : (sceneOf lg l ws).fine (typ l n t hold w) i = true := by
  have hg := List.getElem?_eq_getElem hil
  generalize hgg : l[i] = g at hg
  have htd : Td g := P.td g (hgg ▸ List.getElem_mem hil)
  have hkind := kind_at (lg := lg) (ws := ws) hg
  have hlg : (sceneOf lg l ws).lg = lg := rfl
  have hwo : (sceneOf lg l ws).worlds = ws := rfl
  unfold Sc.fine Sc.needs
  rw [hkind, typ_bit hg]
  rcases htd.nine with ⟨nm, hn, rfl⟩ | rfl | rfl | ⟨a, ha, rfl⟩ | ⟨a, b, ha, hb, rfl⟩ | ⟨a, b, ha, hb, rfl⟩ | ⟨a, b, ha, hb, rfl⟩ | ⟨a, ha, rfl⟩ | ⟨a, ha, rfl⟩
  all_goals try (simp [Fm.kind]; done)
  · rw [show decide ((Fm.mk 8 ⟨#[]⟩ [a]).kind = 8) = true from rfl, show decide ((Fm.mk 8 ⟨#[]⟩ [a]).kind = 9) = false from rfl]
    cases he : ev n t hold (.mk 8 ⟨#[]⟩ [a]) w
    · have key : ∃ u, u < n ∧ t w u = true ∧ ev n t hold a u = false ∧ (lg = 8 → ev n t hold (.mk 8 ⟨#[]⟩ [a]) u = true) := by
        obtain ⟨v, hv, htv, hev⟩ := ev_8f.1 he
        by_cases h8 : lg = 8
        · obtain ⟨u, hu, h1, h2, h3⟩ := last_of (F.trans (by omega)) (F.irr h8) (fun u => ev n t hold a u = false) hw hv htv hev
          refine ⟨u, hu, h1, h2, fun _ => ev_8.2 fun x hx htx => ?_⟩
          have := h3 x hx htx
          simpa using this
        · exact ⟨v, hv, htv, hev, fun h => absurd h h8⟩
      obtain ⟨u, hu, h1, h2, h3⟩ := key
      have hany : (sceneOf lg l ws).worlds.any ((sceneOf lg l ws).shows (typ l n t hold w) i false) = true := by
        rw [List.any_eq_true]
        refine ⟨typ l n t hold u, hI u hu, ?_⟩
        unfold Sc.shows
        rw [typ_kid P hg (show (Fm.mk 8 ⟨#[]⟩ [a]).kids[0]? = some a from rfl), typ_bit hg, h2, hlg, typ_sees P F hw hu h1 (fun h8 => ?_)]
        · by_cases h8 : lg = 8
          · simp [h3 h8]
          · simp [h8]
        · rw [← Bool.not_eq_true, alike_iff]
          intro h
          have := h i _ hg (.inl rfl)
          rw [typ_bit hg, typ_bit hg, he, h3 h8] at this
          cases this
      rw [hany]; simp
    · simp
  · rw [show decide ((Fm.mk 9 ⟨#[]⟩ [a]).kind = 8) = false from rfl, show decide ((Fm.mk 9 ⟨#[]⟩ [a]).kind = 9) = true from rfl]
    cases he : ev n t hold (.mk 9 ⟨#[]⟩ [a]) w
    · simp
    · have key : ∃ u, u < n ∧ t w u = true ∧ ev n t hold a u = true ∧ (lg = 8 → ev n t hold (.mk 9 ⟨#[]⟩ [a]) u = false) := by
        obtain ⟨v, hv, htv, hev⟩ := ev_9.1 he
        by_cases h8 : lg = 8
        · obtain ⟨u, hu, h1, h2, h3⟩ := last_of (F.trans (by omega)) (F.irr h8) (fun u => ev n t hold a u = true) hw hv htv hev
          refine ⟨u, hu, h1, h2, fun _ => ?_⟩
          rw [← Bool.not_eq_true, ev_9]
          rintro ⟨x, hx, htx, hex⟩
          exact h3 x hx htx hex
        · exact ⟨v, hv, htv, hev, fun h => absurd h h8⟩
      obtain ⟨u, hu, h1, h2, h3⟩ := key
      have hany : (sceneOf lg l ws).worlds.any ((sceneOf lg l ws).shows (typ l n t hold w) i true) = true := by
        rw [List.any_eq_true]
        refine ⟨typ l n t hold u, hI u hu, ?_⟩
        unfold Sc.shows
        rw [typ_kid P hg (show (Fm.mk 9 ⟨#[]⟩ [a]).kids[0]? = some a from rfl), typ_bit hg, h2, hlg, typ_sees P F hw hu h1 (fun h8 => ?_)]
        · by_cases h8 : lg = 8
          · simp [h3 h8]
          · simp [h8]
        · rw [← Bool.not_eq_true, alike_iff]
          intro h
          have := h i _ hg (.inr rfl)
          rw [typ_bit hg, typ_bit hg, he, h3 h8] at this
          cases this
      rw [hany]; simp
theorem typ_whole (hI : ∀ v, v < n → typ l n t hold v ∈ ws) {w : Nat} (hw : w < n) : (sceneOf lg l ws).whole (typ l n t hold w) = true := by
  unfold Sc.whole
  rw [Bool.and_eq_true]
  constructor
  · unfold Sc.some
    by_cases h2 : lg = 2
    · obtain ⟨v, hv, ht⟩ := F.ser h2 w hw
      rw [Bool.or_eq_true]
      refine .inr ?_
      rw [List.take_length, List.any_eq_true]
      exact ⟨_, hI v hv, typ_sees P F hw hv ht (fun h => by omega)⟩
    · rw [show (sceneOf lg l ws).lg = lg from rfl]; simp [h2]
  · unfold Sc.allFine
    rw [List.all_eq_true]
    exact fun i hi => typ_fine P F hI hw (List.mem_range.1 hi)
theorem typ_first {w : Nat} (hw : w < n) : typ l n t hold w ∈ (List.range (2 ^ l.length)).filter (sceneOf lg l []).locl :=
  List.mem_filter.2 ⟨List.mem_range.2 (bitsN_lt _ _), typ_locl P F hw⟩
theorem typ_stays (hI : ∀ v, v < n → typ l n t hold v ∈ ws) : ∀ w, w < n → typ l n t hold w ∈ ws.filter (sceneOf lg l ws).whole := fun w hw =>
  List.mem_filter.2 ⟨hI w hw, typ_whole P F hI hw⟩
end
/-- a model of one world -/
def oneT (lg : Nat) (u v : Nat) : Bool := decide (lg ≠ 8)
theorem oneT_frame (lg : Nat) : Frame lg 1 (oneT lg) where
  ser := fun h u hu => ⟨0, by decide, by unfold oneT; rw [decide_eq_true]; omega⟩
  refl := fun h u hu => by unfold oneT; rw [decide_eq_true]; omega
  trans := fun h u v w hu hv hw h1 h2 => h1
  symm := fun h u v hu hv h1 => h1
  irr := fun h u hu => by unfold oneT; rw [decide_eq_false]; omega
noncomputable def decided (lg : Nat) (f : Fm) : Bool := ((lastW lg f).findIdx? noZero).isNone
theorem decided_iff {lg : Nat} {f : Fm} : decided lg f = true ↔ ∀ x ∈ lastW lg f, x.testBit 0 = true := by
  unfold decided
  rw [Option.isNone_iff_eq_none, List.findIdx?_eq_none_iff]
  simp [noZero]
theorem decided_sound {lg : Nat} {f : Fm} (hf : Td f) (h : decided lg f = true) : ValidF lg f := by
  intro n t hold F w hw
  have P := parts_all hf
  have h1 : ∀ v, v < n → typ (partsS [] (pre f)) n t hold v ∈ lastW lg f :=
    elim_inv (fun ws => ∀ v, v < n → typ (partsS [] (pre f)) n t hold v ∈ ws) (fun ws hI => typ_stays P F hI) _ _ (fun v hv => typ_first P F hv)
  have h2 := decided_iff.1 h _ (h1 w hw)
  obtain ⟨r, hr⟩ := partsS_head f
  rwa [typ_bit (show (partsS [] (pre f))[0]? = some f by rw [hr]; rfl)] at h2
end Go.Proofs.Ytliockncjdeloaa
namespace Go.Proofs.Ytliockncjdeloaa
open Go Go.Pv
set_option linter.unusedVariables false
set_option linter.unusedSimpArgs false
set_option linter.unusedSectionVars false
set_option maxRecDepth 100000

theorem mem_names {c : Sc} {x : Nat} {nm : ByteArray} : ∀ k, nm ∈ c.names x k ↔ ∃ j, j < k ∧ c.kind j = 1 ∧ x.testBit j = true ∧ c.nameOf j = nm
  | 0 => by simp [Sc.names]
  | k + 1 => by
    rw [Sc.names]
    split
    · rename_i h
      rw [List.mem_append, mem_names k, List.mem_singleton]
      simp only [Bool.and_eq_true, decide_eq_true_eq] at h
      constructor
      · rintro (⟨j, hj, h1⟩ | rfl)
        · exact ⟨j, by omega, h1⟩
        · exact ⟨k, by omega, h.1, h.2, rfl⟩
      · rintro ⟨j, hj, h1, h2, h3⟩
        by_cases hjk : j = k
        · subst hjk; exact .inr h3.symm
        · exact .inl ⟨j, by omega, h1, h2, h3⟩
    · rename_i h
      rw [mem_names k]
      simp only [Bool.and_eq_true, decide_eq_true_eq] at h
      constructor
      · rintro ⟨j, hj, h1⟩; exact ⟨j, by omega, h1⟩
      · rintro ⟨j, hj, h1, h2, h3⟩
        by_cases hjk : j = k
        · subst hjk; exact absurd ⟨h1, h2⟩ h
        · exact ⟨j, by omega, h1, h2, h3⟩
def atR (R : List Nat) (i : Nat) : Nat := (R[i]?).getD 0
theorem atR_mem {R : List Nat} {i : Nat} (h : i < R.length) : atR R i ∈ R := by unfold atR; rw [List.getElem?_eq_getElem h]; exact List.getElem_mem h
theorem atR_of {R : List Nat} {x : Nat} (h : x ∈ R) : ∃ i, i < R.length ∧ atR R i = x := by
  obtain ⟨i, hi, rfl⟩ := List.mem_iff_getElem.1 h
  exact ⟨i, hi, by unfold atR; rw [List.getElem?_eq_getElem hi]; rfl⟩
def Sc.tab (c : Sc) (R : List Nat) (i j : Nat) : Bool := c.sees (atR R i) (atR R j)
def Sc.hold (c : Sc) (R : List Nat) (i : Nat) (nm : ByteArray) : Bool := memB nm (c.names (atR R i) c.parts.length)
/-- sets that hold each other up -/
structure Stays (lg : Nat) (l : List Fm) (ws R : List Nat) : Prop where
  sub : ∀ x ∈ R, x ∈ ws
  clo : ∀ x ∈ R, ∀ y ∈ ws, (sceneOf lg l ws).sees x y = true → y ∈ R
  loc : ∀ x ∈ ws, (sceneOf lg l ws).locl x = true
  who : ∀ x ∈ ws, (sceneOf lg l ws).whole x = true

section
variable {lg : Nat} {l : List Fm} (P : Parts l) {ws R : List Nat} (S : Stays lg l ws R)
theorem want_at {x i : Nat} {g : Fm} (hx : (sceneOf lg l ws).locl x = true) (hg : l[i]? = some g) : x.testBit i = (sceneOf lg l ws).want x i := by
  unfold Sc.locl at hx
  rw [List.all_eq_true] at hx
  simpa using hx i (List.mem_range.2 (List.getElem?_eq_some_iff.1 hg).1)
include P
theorem refl_at {x : Nat} (hx : (sceneOf lg l ws).locl x = true) (hr : lg = 3 ∨ lg = 5 ∨ lg = 6 ∨ lg = 7) : (sceneOf lg l ws).ahead x x = true := by
  have hrf : (sceneOf lg l ws).refl = true := by unfold Sc.refl; exact decide_eq_true hr
  refine ahead_iff.2 fun i g hg => ?_
  have h := want_at hx hg
  unfold Sc.want at h
  rw [kind_at hg, hrf] at h
  refine ⟨fun hk h1 => ?_, fun hk h1 => ?_⟩
  · rw [hk] at h
    simp only [show ¬ ((8 : Int) = 2) by decide, show ¬ ((8 : Int) = 3) by decide, show ¬ ((8 : Int) = 4) by decide, show ¬ ((8 : Int) = 5) by decide, show ¬ ((8 : Int) = 6) by decide, show ¬ ((8 : Int) = 7) by decide, if_false, if_true] at h
    rw [h1] at h
    simpa using h
  · rw [hk] at h
    simp only [show ¬ ((9 : Int) = 2) by decide, show ¬ ((9 : Int) = 3) by decide, show ¬ ((9 : Int) = 4) by decide, show ¬ ((9 : Int) = 5) by decide, show ¬ ((9 : Int) = 6) by decide, show ¬ ((9 : Int) = 7) by decide, show ¬ ((9 : Int) = 8) by decide, if_false, if_true] at h
    rw [h1] at h
    simpa using h
theorem alike_refl {x : Nat} : (sceneOf lg l ws).alike x x = true := alike_iff.2 fun _ _ _ _ => rfl
theorem more_refl {x : Nat} : (sceneOf lg l ws).more x x = true := more_iff.2 fun _ _ _ => ⟨fun _ h => h, fun _ h => h⟩
theorem sees_trans {x y z : Nat} (hl : lg = 4 ∨ lg = 5 ∨ lg = 6 ∨ lg = 8) (h1 : (sceneOf lg l ws).sees x y = true) (h2 : (sceneOf lg l ws).sees y z = true) : (sceneOf lg l ws).sees x z = true := by
  obtain ⟨a1, m1, k1, _, n1⟩ := sees_iff.1 h1
  obtain ⟨a2, m2, k2, _, n2⟩ := sees_iff.1 h2
  have hm1 : (sceneOf lg l ws).more x y = true := by
    by_cases h6 : lg = 6
    · have := alike_iff.1 (k1 h6)
      exact more_iff.2 fun i g hg => ⟨fun hk h => by rw [← this i g hg (.inl hk)]; exact h, fun hk h => by rw [this i g hg (.inr hk)]; exact h⟩
    · exact m1 (by omega)
  have hm2 : (sceneOf lg l ws).more y z = true := by
    by_cases h6 : lg = 6
    · have := alike_iff.1 (k2 h6)
      exact more_iff.2 fun i g hg => ⟨fun hk h => by rw [← this i g hg (.inl hk)]; exact h, fun hk h => by rw [this i g hg (.inr hk)]; exact h⟩
    · exact m2 (by omega)
  have g1 := more_iff.1 hm1
  have g2 := more_iff.1 hm2
  have ga := ahead_iff.1 a2
  refine sees_iff.2 ⟨ahead_iff.2 fun i g hg => ⟨fun hk h => (ga i g hg).1 hk ((g1 i g hg).1 hk h), fun hk h => (g1 i g hg).2 hk ((ga i g hg).2 hk h)⟩,
    fun _ => more_iff.2 fun i g hg => ⟨fun hk h => (g2 i g hg).1 hk ((g1 i g hg).1 hk h), fun hk h => (g1 i g hg).2 hk ((g2 i g hg).2 hk h)⟩,
    fun h6 => alike_iff.2 fun i g hg hk => (alike_iff.1 (k1 h6) i g hg hk).trans (alike_iff.1 (k2 h6) i g hg hk), fun h7 => by omega, fun h8 => ?_⟩
  rw [← Bool.not_eq_true]
  intro hal
  have h3 := alike_iff.1 hal
  have h4 : (sceneOf lg l ws).alike x y = true := alike_iff.2 fun i g hg hk => by
    rw [Bool.eq_iff_iff]
    rcases hk with hk | hk
    · exact ⟨(g1 i g hg).1 hk, fun h => by rw [h3 i g hg (.inl hk)]; exact (g2 i g hg).1 hk h⟩
    · exact ⟨fun h => (g2 i g hg).2 hk (by rw [← h3 i g hg (.inr hk)]; exact h), (g1 i g hg).2 hk⟩
  rw [n1 h8] at h4; cases h4
include S
theorem tab_frame : Frame lg R.length ((sceneOf lg l ws).tab R) where
  ser := fun h u hu => by
    have h1 := S.who _ (S.sub _ (atR_mem hu))
    unfold Sc.whole Sc.some at h1
    rw [show (sceneOf lg l ws).lg = lg from rfl, h, List.take_length] at h1
    simp only [decide_true, Bool.not_true, Bool.false_or, Bool.and_eq_true, List.any_eq_true] at h1
    obtain ⟨⟨y, hy, hs⟩, _⟩ := h1
    rw [← h] at hs hy
    obtain ⟨v, hv, rfl⟩ := atR_of (S.clo _ (atR_mem hu) y hy hs)
    exact ⟨v, hv, hs⟩
  refl := fun h u hu => by
    have h1 := S.loc _ (S.sub _ (atR_mem hu))
    have ha := refl_at P h1 h
    exact sees_iff.2 ⟨ha, fun _ => more_refl P, fun _ => alike_refl P, fun _ => ha, fun h8 => by omega⟩
  trans := fun h u v w _ _ _ h1 h2 => sees_trans P h h1 h2
  symm := fun h u v hu hv h1 => by
    obtain ⟨a1, m1, k1, b1, n1⟩ := sees_iff.1 h1
    rcases h with h | h
    · have hal := alike_iff.1 (k1 h)
      have ha := ahead_iff.1 (refl_at P (S.loc _ (S.sub _ (atR_mem hu))) (by omega))
      exact sees_iff.2 ⟨ahead_iff.2 fun i g hg => ⟨fun hk h => (ha i g hg).1 hk (by rw [hal i g hg (.inl hk)]; exact h), fun hk h => by rw [← hal i g hg (.inr hk)]; exact (ha i g hg).2 hk h⟩,
        fun _ => by omega, fun _ => alike_iff.2 fun i g hg hk => (hal i g hg hk).symm, fun _ => by omega, fun _ => by omega⟩
    · exact sees_iff.2 ⟨b1 h, fun _ => by omega, fun _ => by omega, fun _ => a1, fun _ => by omega⟩
  irr := fun h u hu => by
    rw [← Bool.not_eq_true]
    intro hs
    obtain ⟨_, _, _, _, n1⟩ := sees_iff.1 hs
    rw [alike_refl P] at n1
    cases n1 h
theorem truth (g : Fm) : ∀ k, l[k]? = some g → ∀ i, i < R.length → ev R.length ((sceneOf lg l ws).tab R) ((sceneOf lg l ws).hold R) g i = (atR R i).testBit k := by
  induction g using Fm.ind with
  | h g ih =>
    intro k hg i hi
    have htd : Td g := P.td g (List.mem_of_getElem? hg)
    have hw := S.loc _ (S.sub _ (atR_mem hi))
    have hwant := want_at hw hg
    have hfine : (sceneOf lg l ws).fine (atR R i) k = true := by
      have h1 := S.who _ (S.sub _ (atR_mem hi))
      unfold Sc.whole Sc.allFine at h1
      rw [Bool.and_eq_true, List.all_eq_true] at h1
      exact h1.2 k (List.mem_range.2 (List.getElem?_eq_some_iff.1 hg).1)
    unfold Sc.want at hwant
    rw [kind_at hg] at hwant
    unfold Sc.fine Sc.needs at hfine
    rw [kind_at hg] at hfine
    have hkid : ∀ j a, g.kids[j]? = some a → ∀ v, v < R.length → ev R.length ((sceneOf lg l ws).tab R) ((sceneOf lg l ws).hold R) a v = (atR R v).testBit ((sceneOf lg l ws).kid k j) := fun j a h v hv => by
      obtain ⟨m, h1, h2⟩ := kid_at (lg := lg) (ws := ws) P hg h
      rw [h2]; exact ih a (List.mem_of_getElem? h) m h1 v hv
    rcases htd.nine with ⟨nm, hn, rfl⟩ | rfl | rfl | ⟨a, ha, rfl⟩ | ⟨a, b, ha, hb, rfl⟩ | ⟨a, b, ha, hb, rfl⟩ | ⟨a, b, ha, hb, rfl⟩ | ⟨a, ha, rfl⟩ | ⟨a, ha, rfl⟩
    · rw [ev_1, Sc.hold, Bool.eq_iff_iff, memB_iff, mem_names]
      constructor
      · rintro ⟨j, hj, h1, h2, h3⟩
        have hj : j < l.length := hj
        have hgj := List.getElem?_eq_getElem hj
        rw [kind_at hgj] at h1
        have h4 : l[j].name = nm := by
          rw [← h3]; unfold Sc.nameOf sceneOf; simp only [hgj, Option.map_some, Option.getD_some]
        have h5 : l[j] = .mk 1 nm [] := by
          have htj := P.td _ (List.getElem_mem hj)
          generalize l[j] = gj at h1 h4 htj
          rcases htj.nine with ⟨nm, hn, rfl⟩ | rfl | rfl | ⟨a, ha, rfl⟩ | ⟨a, b, ha, hb, rfl⟩ | ⟨a, b, ha, hb, rfl⟩ | ⟨a, b, ha, hb, rfl⟩ | ⟨a, ha, rfl⟩ | ⟨a, ha, rfl⟩
          all_goals first
            | (exfalso; simp [Fm.kind] at h1; done)
            | (simp only [Fm.name] at h4; rw [h4])
        obtain ⟨hk, hgk⟩ := List.getElem?_eq_some_iff.1 hg
        have : j = k := (List.getElem_inj P.nd).1 (h5.trans hgk.symm)
        rwa [this] at h2
      · intro h
        obtain ⟨hk, hgk⟩ := List.getElem?_eq_some_iff.1 hg
        exact ⟨k, hk, by rw [kind_at hg]; rfl, h, by unfold Sc.nameOf sceneOf; simp only [hg, Option.map_some, Option.getD_some]; rfl⟩
    · rw [ev_2, hwant]; rfl
    · rw [ev_3, hwant]; rfl
    · rw [ev_4, hwant, hkid 0 a rfl i hi]; rfl
    · rw [ev_5, hwant, hkid 0 a rfl i hi, hkid 1 b rfl i hi]; rfl
    · rw [ev_6, hwant, hkid 0 a rfl i hi, hkid 1 b rfl i hi]; rfl
    · rw [ev_7, hwant, hkid 0 a rfl i hi, hkid 1 b rfl i hi]; rfl
    · rw [show decide ((Fm.mk 8 ⟨#[]⟩ [a]).kind = 8) = true from rfl, show decide ((Fm.mk 8 ⟨#[]⟩ [a]).kind = 9) = false from rfl] at hfine
      cases hb : (atR R i).testBit k
      · rw [hb] at hfine
        simp only [Bool.true_or, Bool.true_and, beq_self_eq_true, Bool.not_true, Bool.false_or, List.any_eq_true] at hfine
        obtain ⟨y, hy, hs⟩ := hfine
        unfold Sc.shows at hs
        simp only [Bool.and_eq_true, beq_iff_eq] at hs
        obtain ⟨v, hv, rfl⟩ := atR_of (S.clo _ (atR_mem hi) y hy hs.1.1)
        exact ev_8f.2 ⟨v, hv, hs.1.1, by rw [hkid 0 a rfl v hv]; exact hs.1.2⟩
      · refine ev_8.2 fun v hv ht => ?_
        rw [hkid 0 a rfl v hv]
        exact (ahead_iff.1 (sees_iff.1 ht).1 k _ hg).1 rfl hb
    · rw [show decide ((Fm.mk 9 ⟨#[]⟩ [a]).kind = 8) = false from rfl, show decide ((Fm.mk 9 ⟨#[]⟩ [a]).kind = 9) = true from rfl] at hfine
      cases hb : (atR R i).testBit k
      · rw [← Bool.not_eq_true, ev_9]
        rintro ⟨v, hv, ht, he⟩
        rw [hkid 0 a rfl v hv] at he
        have := (ahead_iff.1 (sees_iff.1 ht).1 k _ hg).2 rfl he
        rw [hb] at this; cases this
      · rw [hb] at hfine
        simp only [Bool.false_or, Bool.true_and, beq_self_eq_true, Bool.not_true, List.any_eq_true] at hfine
        obtain ⟨y, hy, hs⟩ := hfine
        unfold Sc.shows at hs
        simp only [Bool.and_eq_true, beq_iff_eq] at hs
        obtain ⟨v, hv, rfl⟩ := atR_of (S.clo _ (atR_mem hi) y hy hs.1.1)
        exact ev_9.2 ⟨v, hv, hs.1.1, by rw [hkid 0 a rfl v hv]; exact hs.1.2⟩
end
theorem lastW_stays (lg : Nat) (f : Fm) (R : List Nat) (hs : ∀ x ∈ R, x ∈ lastW lg f) (hc : ∀ x ∈ R, ∀ y ∈ lastW lg f, (lastC lg f).sees x y = true → y ∈ R) : Stays lg (partsS [] (pre f)) (lastW lg f) R where
  sub := hs
  clo := hc
  loc := fun x hx => by
    have : ∀ y ∈ lastW lg f, (sceneOf lg (partsS [] (pre f)) []).locl y = true :=
      elim_inv (fun ws => ∀ y ∈ ws, (sceneOf lg (partsS [] (pre f)) []).locl y = true) (fun ws h y hy => h y (List.mem_filter.1 hy).1) _ _ (fun y hy => (List.mem_filter.1 hy).2)
    exact this x hx
  who := fun x hx => elim_fix _ _ (by have := List.length_filter_le (sceneOf lg (partsS [] (pre f)) []).locl (List.range (2 ^ (partsS [] (pre f)).length)); rwa [List.length_range] at this) x hx
theorem decided_complete {lg : Nat} {f : Fm} (hf : Td f) (h : ValidF lg f) : decided lg f = true := by
  have P := parts_all hf
  have S := lastW_stays lg f (lastW lg f) (fun x h => h) (fun x _ y hy _ => hy)
  refine decided_iff.2 fun x hx => ?_
  obtain ⟨i, hi, rfl⟩ := atR_of hx
  obtain ⟨r, hr⟩ := partsS_head f
  rw [← truth P S f 0 (by rw [hr]; rfl) i hi]
  exact h _ _ _ (tab_frame P S) i hi
end Go.Proofs.Ytliockncjdeloaa
namespace Go.Proofs.Ytliockncjdeloaa
open Go Go.Pv
set_option linter.unusedVariables false
set_option linter.unusedSimpArgs false
set_option linter.unusedSectionVars false
set_option maxRecDepth 100000

theorem decided_valid {lg : Nat} {f : Fm} (hf : Td f) : decided lg f = true ↔ ValidF lg f := ⟨decided_sound hf, decided_complete hf⟩
theorem td_check {f : Fm} (h : (formulaCheck f).1 = 0) : Td f := ((formulaCheck_iff f).1 h).1
noncomputable def decE (lg : Int) (f : Fm) : Int × Int := if (formulaCheck f).1 ≠ 0 then formulaCheck f else if lg < 1 ∨ 8 < lg then (4, 0) else if 10 < (partsS [] (pre f)).length then (2, 0) else (0, 0)
noncomputable def decB (lg : Int) (f : Fm) : Bool := decide ((decE lg f).1 = 0) && decided lg.toNat f
noncomputable def decM (lg : Int) (f : Fm) : Mdl := if (decE lg f).1 = 0 then (match (lastW lg.toNat f).findIdx? noZero with | none => mdl0 | some i => (lastC lg.toNat f).mdl ((lastC lg.toNat f).reach ((lastW lg.toNat f).length + 1) 0 [((lastW lg.toNat f)[i]?).getD 0])) else mdl0
theorem Decide_modlog (lg : Int) (f : Fm) : CallOK Try.prog 10 [.int .i64 lg, .agg (frm f)] [] (decT (decB lg f) (decM lg f) (decE lg f)) [] := by
  unfold decB decM decE
  by_cases h : (formulaCheck f).1 = 0
  · have hf := td_check h
    rw [if_neg (by simp [h])]
    by_cases hl : lg < 1 ∨ 8 < lg
    · rw [if_pos hl]
      exact Decide_kind lg f h hl
    · rw [if_neg hl]
      obtain ⟨n, rfl⟩ : ∃ n : Nat, lg = n := ⟨lg.toNat, by omega⟩
      by_cases hm : 10 < (partsS [] (pre f)).length
      · rw [if_pos hm]
        exact Decide_many n f h (by omega) (by omega) hm
      · rw [if_neg hm]
        have P := parts_all hf
        have F := oneT_frame n
        have hd := Decide_ok n f h (by omega) (by omega) (by omega) P.kid (fun ws => ∀ v, v < 1 → typ (partsS [] (pre f)) 1 (oneT n) (fun _ _ => false) v ∈ ws)
          (fun v hv => typ_first P F hv) (fun ws hI => typ_stays P F hI) (fun ws hI => List.length_pos_of_mem (hI 0 (by decide)))
        rw [show ((n : Int)).toNat = n from rfl]
        have e : decided n f = ((lastW n f).findIdx? noZero).isNone := rfl
        rw [e]
        cases hfi : (lastW n f).findIdx? noZero with
        | none => rw [hfi] at hd; exact hd
        | some i => rw [hfi] at hd; exact hd
  · rw [if_pos h, if_neg h]
    have := Decide_fault lg f h
    simpa [h] using this
theorem decE_zero {lg : Int} {f : Fm} (h : (decE lg f).1 = 0) : Td f ∧ 1 ≤ lg ∧ lg ≤ 8 := by
  unfold decE at h
  split at h
  · rename_i g; exact absurd h g
  · rename_i g
    split at h
    · cases h
    · exact ⟨td_check (by simpa using g), by omega, by omega⟩
theorem decB_valid {lg : Int} {f : Fm} (h : (decE lg f).1 = 0) : decB lg f = true ↔ ValidF lg.toNat f := by
  unfold decB
  simp only [h, decide_true, Bool.true_and]
  exact decided_valid (decE_zero h).1
theorem partsS_len : ∀ (l : List Fm) (had : List ByteArray), (partsS had l).length ≤ l.length
  | [], had => Nat.le_refl _
  | x :: r, had => by
    rw [partsS]; split
    · have := partsS_len r had; simp; omega
    · have := partsS_len r (had ++ [said x 1]); simp; omega

def fP : Fm := .mk 1 ⟨#[112]⟩ []
def fLoeb : Fm := of2 7 (of1 8 (of2 7 (of1 8 fP) fP)) (of1 8 fP)
theorem loeb_ok : (formulaCheck fLoeb).1 = 0 ∧ (pre fLoeb).length ≤ 10 := by
  have hp : okN fP := by unfold okN fP; decide
  have h : (∀ x ∈ pre fLoeb, okN x) ∧ (pre fLoeb).length = 8 := by
    unfold fLoeb
    simp only [pre_of2, pre_of1]
    have e : pre fP = [fP] := by rw [pre_eq]; rfl
    rw [e]
    refine ⟨?_, rfl⟩
    simp only [List.forall_mem_cons, List.forall_mem_append, List.forall_mem_nil]
    simp [ok_of1, ok_of2, hp]
  exact ⟨(formulaCheck_iff _).2 ⟨h.1, by omega⟩, by omega⟩
theorem loeb_decE {lg : Int} (h : 1 ≤ lg) (h2 : lg ≤ 8) : decE lg fLoeb = (0, 0) := by
  unfold decE
  have := partsS_len (pre fLoeb) []
  have := loeb_ok.2
  rw [if_neg (by simp [loeb_ok.1]), if_neg (by omega), if_neg (by omega)]
theorem loeb_valid : ValidF 8 fLoeb := by
  intro n t hold F w hw
  show ev n t hold (.mk 7 _ [_, _]) w = true
  rw [ev_7]
  cases h1 : ev n t hold (of1 8 (of2 7 (of1 8 fP) fP)) w
  · rfl
  · simp only [Bool.not_true, Bool.false_or]
    refine ev_8.2 fun v hv hwv => ?_
    have h1 := ev_8.1 h1
    cases hp : ev n t hold fP v
    · obtain ⟨u, hu, g1, g2, g3⟩ := last_of (F.trans (by omega)) (F.irr rfl) (fun u => ev n t hold fP u = false) hw hv hwv hp
      have h2 := h1 u hu g1
      unfold of2 at h2
      rw [ev_7, g2] at h2
      have h3 : ev n t hold (of1 8 fP) u = true := ev_8.2 fun x hx hux => by simpa using g3 x hx hux
      rw [h3] at h2; cases h2
    · rfl
theorem loeb_not : ¬ ValidF 5 fLoeb := by
  intro h
  have h1 := h 1 (oneT 5) (fun _ _ => false) (oneT_frame 5) 0 (by decide)
  have hp : ev 1 (oneT 5) (fun _ _ => false) fP 0 = false := by unfold fP; rw [ev_1]
  have hb : ev 1 (oneT 5) (fun _ _ => false) (of1 8 fP) 0 = false := ev_8f.2 ⟨0, by decide, rfl, hp⟩
  have hbb : ev 1 (oneT 5) (fun _ _ => false) (of1 8 (of2 7 (of1 8 fP) fP)) 0 = true := ev_8.2 fun v hv _ => by
    obtain rfl : v = 0 := by omega
    unfold of2; rw [ev_7, hb]; rfl
  unfold fLoeb of2 at h1
  rw [ev_7] at h1
  unfold of2 at hbb
  rw [hbb, hb] at h1
  cases h1
theorem loeb8 : decB 8 fLoeb = true := (decB_valid (by rw [loeb_decE (by decide) (by decide)])).2 loeb_valid
theorem loeb5 : decB 5 fLoeb = false := by
  rw [← Bool.not_eq_true, decB_valid (by rw [loeb_decE (by decide) (by decide)])]
  exact loeb_not
end Go.Proofs.Ytliockncjdeloaa
namespace Go.Proofs.Ytliockncjdeloaa
open Go Go.Pv
set_option linter.unusedVariables false
set_option linter.unusedSimpArgs false

mutual
/-- g put for a name -/
def withF (nm : ByteArray) (g : Fm) : Fm → Fm
  | .mk k n l => if k = 1 ∧ n = nm then g else .mk k n (withFs nm g l)
def withFs (nm : ByteArray) (g : Fm) : List Fm → List Fm
  | [] => []
  | f :: r => withF nm g f :: withFs nm g r
end
theorem withFs_map (nm : ByteArray) (g : Fm) : ∀ l, withFs nm g l = l.map (withF nm g)
  | [] => by rw [withFs]; rfl
  | f :: r => by rw [withFs, withFs_map nm g r]; rfl
theorem withF_eq (nm : ByteArray) (g f : Fm) : withF nm g f = if f.kind = 1 ∧ f.name = nm then g else .mk f.kind f.name (f.kids.map (withF nm g)) := by
  cases f with | mk k n l => rw [withF, withFs_map]; rfl
theorem evs_map (n : Nat) (t : Nat → Nat → Bool) (hold : Nat → ByteArray → Bool) : ∀ l, evs n t hold l = l.map (ev n t hold)
  | [] => by rw [evs]; rfl
  | f :: r => by rw [evs, evs_map n t hold r]; rfl
theorem ev_with (n : Nat) (t : Nat → Nat → Bool) (hold : Nat → ByteArray → Bool) (nm : ByteArray) (g f : Fm) :
    ev n t hold (withF nm g f) = ev n t (fun w x => if x = nm then ev n t hold g w else hold w x) f := by
  induction f using Fm.ind with
  | h f ih =>
    cases f with
    | mk k m l =>
      rw [withF_eq]
      by_cases h1 : k = 1
      · subst h1
        funext w
        by_cases h2 : m = nm
        · rw [if_pos ⟨rfl, h2⟩, ev_1, if_pos h2]
        · rw [if_neg (fun h => h2 h.2)]; simp only [Fm.kind, Fm.name]; rw [ev_1, ev_1, if_neg h2]
      · rw [if_neg (fun h => h1 h.1)]
        have : evs n t hold (l.map (withF nm g)) = evs n t (fun w x => if x = nm then ev n t hold g w else hold w x) l := by
          rw [evs_map, evs_map, List.map_map]
          exact List.map_congr_left (fun f hf => ih f hf)
        funext w
        show ev n t hold (.mk k m (l.map (withF nm g))) w = _
        rw [ev, ev, this]; simp only [if_neg h1]
theorem valid_box {lg : Nat} {f : Fm} (h : ValidF lg f) : ValidF lg (of1 8 f) := by
  intro n t hold F w hw
  unfold of1
  rw [ev_8]
  exact fun v hv _ => h n t hold F v hv
theorem valid_mp {lg : Nat} {f g : Fm} (h : ValidF lg f) (h2 : ValidF lg (of2 7 f g)) : ValidF lg g := by
  intro n t hold F w hw
  have := h2 n t hold F w hw
  unfold of2 at this
  rw [ev_7, h n t hold F w hw] at this
  simpa using this
theorem valid_with {lg : Nat} {f : Fm} (h : ValidF lg f) (nm : ByteArray) (g : Fm) : ValidF lg (withF nm g f) := by
  intro n t hold F w hw
  rw [ev_with]
  exact h n t _ F w hw
theorem dec_box {lg : Int} {f : Fm} (h1 : (decE lg f).1 = 0) (h2 : (decE lg (of1 8 f)).1 = 0) (h : decB lg f = true) : decB lg (of1 8 f) = true :=
  (decB_valid h2).2 (valid_box ((decB_valid h1).1 h))
theorem dec_mp {lg : Int} {f g : Fm} (h1 : (decE lg f).1 = 0) (h2 : (decE lg g).1 = 0) (h3 : (decE lg (of2 7 f g)).1 = 0) (h : decB lg f = true) (h' : decB lg (of2 7 f g) = true) : decB lg g = true :=
  (decB_valid h2).2 (valid_mp ((decB_valid h1).1 h) ((decB_valid h3).1 h'))
theorem dec_with {lg : Int} {f g : Fm} {nm : ByteArray} (h1 : (decE lg f).1 = 0) (h2 : (decE lg (withF nm g f)).1 = 0) (h : decB lg f = true) : decB lg (withF nm g f) = true :=
  (decB_valid h2).2 (valid_with ((decB_valid h1).1 h) nm g)

/-- the document's check -/
def refFault (f : Fm) : Int × Int := (checkNodes (walkL f 201) 0).getD (0, 0)
theorem walkK_take (l : List Fm) (ih : ∀ f ∈ l, ∀ m : Nat, walkL f (m : Int) = (pre f).take (m + 1)) : ∀ (out : List Fm) (m : Nat), out.length ≤ m + 1 → walkK l out (m : Int) = (out ++ pres l).take (m + 1) := by
  induction l with
  | nil => intro out m h; rw [walkK, pres_nil, List.append_nil, List.take_of_length_le h]
  | cons f r ih2 =>
    intro out m h
    rw [walkK]
    split
    · rename_i h1
      have hm : (m : Int) - out.length = ((m - out.length : Nat) : Int) := by omega
      rw [hm, ih f (by simp), ih2 (fun g hg => ih g (by simp [hg])) _ _ (by simp; omega), pres_cons]
      rw [List.append_assoc, List.take_append, List.take_append, List.take_append, List.take_append, List.take_take, List.length_take]
      have e1 : min (m + 1 - out.length) (m - out.length + 1) = m + 1 - out.length := by omega
      have e2 : m + 1 - out.length - min (m - out.length + 1) (pre f).length = m + 1 - out.length - (pre f).length := by omega
      rw [e1, e2]
    · rw [List.take_append, List.take_of_length_le h, show m + 1 - out.length = 0 by omega, List.take_zero, List.append_nil]
theorem walk_take (f : Fm) : ∀ m : Nat, walkL f (m : Int) = (pre f).take (m + 1) := by
  induction f using Fm.ind with
  | h f ih => intro m; rw [walkL_eq, walkK_take _ ih [f] m (by simp), pre_eq]; rfl
theorem pres_ge : ∀ l : List Fm, l.length ≤ (pres l).length
  | [] => by simp
  | f :: r => by rw [pres_cons, pre_eq]; have := pres_ge r; simp; omega
theorem nodesGo_take (M : Nat) : ∀ (n : Nat) (st : List Fm), n ≤ M + 1 → nodesGo M n st = (pres st).take n := by
  intro n
  induction n with
  | zero => intro st h; rw [List.take_zero]; cases st <;> rfl
  | succ n ih =>
    intro st h
    cases st with
    | nil => rw [nodesGo_nil, pres_nil]; rfl
    | cons x r =>
      rw [nodesGo_succ, ih _ (by omega), pres_head, List.take_succ_cons]
      congr 1
      by_cases hx : x.kids.length ≤ M
      · rw [List.take_of_length_le hx]
      · have e : pres (x.kids ++ r) = pres (x.kids.take M) ++ (pres (x.kids.drop M) ++ pres r) := by
          rw [← List.append_assoc, ← pres_append, List.take_append_drop, pres_append]
        have hl : n ≤ (pres (x.kids.take M)).length := by
          have := pres_ge (x.kids.take M); rw [List.length_take] at this; omega
        rw [e, pres_append, List.take_append_of_le_length hl, List.take_append_of_le_length hl]
theorem checkNodes_take : ∀ (l : List Fm) (n i : Nat), 201 ≤ i + n → i ≤ 200 → checkNodes (l.take n) (i : Int) = checkNodes l i := by
  intro l
  induction l with
  | nil => intro n i h1 h2; rw [List.take_nil]
  | cons x r ih =>
    intro n i h1 h2
    obtain ⟨n, rfl⟩ : ∃ k, n = k + 1 := ⟨n - 1, by omega⟩
    rw [List.take_succ_cons, checkNodes, checkNodes]
    by_cases h3 : (i : Int) = 200
    · rw [if_pos h3, if_pos h3]
    · have := ih n (i + 1) (by omega) (by omega)
      rw [if_neg h3, if_neg h3, show ((i : Int) + 1) = ((i + 1 : Nat) : Int) by omega, this]
theorem refFault_eq (f : Fm) : refFault f = formulaCheck f := by
  unfold refFault formulaCheck
  rw [show (201 : Int) = ((201 : Nat) : Int) from rfl, walk_take, nodesGo_take _ _ _ (by omega), pres_cons, pres_nil, List.append_nil]
  rw [show (0 : Int) = ((0 : Nat) : Int) from rfl, checkNodes_take _ _ _ (by omega) (by omega), checkNodes_take _ _ _ (by omega) (by omega)]
end Go.Proofs.Ytliockncjdeloaa
