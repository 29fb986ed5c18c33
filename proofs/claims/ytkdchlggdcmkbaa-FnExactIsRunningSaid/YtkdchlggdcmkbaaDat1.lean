/-
  Plain data: nodes, tasks, campaigns, their sizes.
-/
import Derived.Test.YtkdchlggdcmkbaaAbEnds
set_option linter.unusedSimpArgs false
set_option linter.unusedVariables false
namespace Go.Dt
open Go.Ab

abbrev Str := List UInt8

inductive Node where
  | mk (name value : Str) (kids : List Node)

def Node.name : Node → Str | .mk n _ _ => n
def Node.value : Node → Str | .mk _ v _ => v
def Node.kids : Node → List Node | .mk _ _ k => k

mutual
def encNode (o : Bool) : Node → AV
  | .mk n v ks => .agg [.str n, .str v, .sl o 3 (encNodes o ks)]
def encNodes (o : Bool) : List Node → List AV
  | [] => []
  | x :: xs => encNode o x :: encNodes o xs
end

theorem encNodes_eq (o : Bool) (l : List Node) : encNodes o l = l.map (encNode o) := by
  induction l with
  | nil => rfl
  | cons x xs ih => simp [encNodes, ih]

@[go_sem] theorem encNode_eq (o : Bool) (n : Node) : encNode o n = .agg [.str n.name, .str n.value, .sl o 3 (n.kids.map (encNode o))] := by
  cases n; simp [encNode, encNodes_eq, Node.name, Node.value, Node.kids]

mutual
theorem encNode_frz : ∀ n : Node, (encNode true n).frz = encNode false n
  | .mk n v ks => by simp only [encNode, AV.frz, AV.frzL, encNodes_frz ks, cond_true]
theorem encNodes_frz : ∀ l : List Node, AV.frzL (encNodes true l) = encNodes false l
  | [] => rfl
  | x :: xs => by simp only [encNodes, AV.frzL, encNode_frz x, encNodes_frz xs]
end

theorem encNodesM_frz (l : List Node) : AV.frzL (l.map (encNode true)) = l.map (encNode false) := by
  rw [← encNodes_eq, encNodes_frz, encNodes_eq]

theorem frzL_map {α : Type} (f g : α → AV) (h : ∀ x, (f x).frz = g x) (l : List α) : AV.frzL (l.map f) = l.map g := by
  rw [AV.frzL_eq, List.map_map]; apply List.map_congr_left; intro x _; exact h x

structure Task where
  device : Str
  tree : List Node
  state : Int

@[go_sem] def encTask (o : Bool) (t : Task) : AV := .agg [.str t.device, .sl o 3 (t.tree.map (encNode o)), .v (.int .i64 t.state)]

theorem encTask_frz (t : Task) : (encTask true t).frz = encTask false t := by
  simp only [encTask, AV.frz, AV.frzL, encNodesM_frz, cond_true]

structure Campaign where
  state : Int
  tasks : List Task

@[go_sem] def encCampaign (o : Bool) (c : Campaign) : AV := .agg [.v (.int .i64 c.state), .sl o 3 (c.tasks.map (encTask o))]

theorem encCampaign_frz (c : Campaign) : (encCampaign true c).frz = encCampaign false c := by
  simp only [encCampaign, AV.frz, AV.frzL, frzL_map _ _ encTask_frz, cond_true]

/-! sizes -/
def thn (a : Int) (k : Int → Int) : Int := if a < 0 then -1 else k a
def szStr (s : Str) (left : Int) : Int := left - s.length
def szGo {α : Type} (f : α → Int → Int) : List α → Int → Int
  | [], r => r
  | x :: xs, r => thn (f x r) (szGo f xs)
def szSl {α : Type} (f : α → Int → Int) (l : List α) (left : Int) : Int := thn (left - l.length) (szGo f l)

mutual
def szNode : Node → Int → Int
  | .mk n v ks, left => thn (szStr n left) fun a => thn (szStr v a) fun b => thn (thn (b - ks.length) (szNodesGo ks)) id
def szNodesGo : List Node → Int → Int
  | [], r => r
  | x :: xs, r => thn (szNode x r) (szNodesGo xs)
end

theorem szNodesGo_eq : ∀ l : List Node, szNodesGo l = szGo szNode l
  | [] => rfl
  | x :: xs => by funext r; simp only [szNodesGo, szGo, szNodesGo_eq xs]

theorem szNode_eq (n : Node) (left : Int) : szNode n left = thn (szStr n.name left) fun a => thn (szStr n.value a) fun b => thn (szSl szNode n.kids b) id := by
  cases n; simp [szNode, szSl, szNodesGo_eq, Node.name, Node.value, Node.kids]

def szTask (t : Task) (left : Int) : Int := thn (szStr t.device left) fun a => thn (szSl szNode t.tree a) id
def szCampaign (c : Campaign) (left : Int) : Int := thn (szSl szTask c.tasks left) id

theorem thn_neg {a : Int} {k : Int → Int} (h : a < 0) : thn a k = -1 := if_pos h
theorem thn_pos {a : Int} {k : Int → Int} (h : ¬ a < 0) : thn a k = k a := if_neg h

theorem szGo_snoc {α : Type} (f : α → Int → Int) : ∀ (l : List α) (x : α) (r : Int), 0 ≤ szGo f l r → szGo f (l ++ [x]) r = thn (f x (szGo f l r)) id
  | [], x, r, _ => by simp only [List.nil_append, szGo]; rfl
  | y :: l, x, r, h => by
    simp only [List.cons_append, szGo] at h ⊢
    unfold thn at h ⊢
    by_cases e : f y r < 0
    · rw [if_pos e] at h; omega
    · rw [if_neg e] at h ⊢
      rw [if_neg e, szGo_snoc f l x _ h]; rfl

/-- once below 0, -1 -/
theorem szGo_neg {α : Type} (f : α → Int → Int) : ∀ (l m : List α) (r : Int), szGo f l r = -1 → l ≠ [] → szGo f (l ++ m) r = -1
  | [], _, _, _, h => absurd rfl h
  | [y], m, r, h, _ => by
    simp only [szGo, thn] at h
    simp only [List.cons_append, List.nil_append, szGo, thn]
    by_cases e : f y r < 0
    · rw [if_pos e]
    · rw [if_neg e] at h; omega
  | y :: z :: l, m, r, h, _ => by
    rw [szGo] at h
    rw [List.cons_append, szGo]
    unfold thn at h ⊢
    by_cases e : f y r < 0
    · rw [if_pos e]
    · rw [if_neg e] at h ⊢
      exact szGo_neg f (z :: l) m _ h (by simp)

theorem thn_le {a b : Int} {k : Int → Int} (h : ∀ x, 0 ≤ x → k x ≤ x) (hb : a ≤ b) (h0 : 0 ≤ b) : thn a k ≤ b := by
  unfold thn; split
  · omega
  · have := h a (by omega); omega

theorem szStr_le (s : Str) (r : Int) (_h : 0 ≤ r) : szStr s r ≤ r := by unfold szStr; omega

theorem szGo_le {α : Type} (f : α → Int → Int) (hf : ∀ x r, 0 ≤ r → f x r ≤ r) : ∀ (l : List α) (r : Int), 0 ≤ r → szGo f l r ≤ r
  | [], r, _ => Int.le_refl _
  | x :: xs, r, h => thn_le (fun y hy => szGo_le f hf xs y hy) (hf x r h) h

theorem szSl_le {α : Type} (f : α → Int → Int) (hf : ∀ x r, 0 ≤ r → f x r ≤ r) (l : List α) (r : Int) (h : 0 ≤ r) : szSl f l r ≤ r :=
  thn_le (fun y hy => szGo_le f hf l y hy) (by omega) h

mutual
theorem szNode_le : ∀ (n : Node) (r : Int), 0 ≤ r → szNode n r ≤ r
  | .mk n v ks, r, h => by
    simp only [szNode]
    exact thn_le (fun a ha => thn_le (fun b hb => thn_le (fun c _ => Int.le_refl _) (thn_le (fun y hy => szNodesGo_le ks y hy) (by omega) hb) hb) (szStr_le v a ha) ha) (szStr_le n r h) h
theorem szNodesGo_le : ∀ (l : List Node) (r : Int), 0 ≤ r → szNodesGo l r ≤ r
  | [], r, _ => Int.le_refl _
  | x :: xs, r, h => by
    simp only [szNodesGo]
    exact thn_le (fun y hy => szNodesGo_le xs y hy) (szNode_le x r h) h
end

theorem szTask_le (t : Task) (r : Int) (h : 0 ≤ r) : szTask t r ≤ r :=
  thn_le (fun a ha => thn_le (fun _ _ => Int.le_refl _) (szSl_le szNode szNode_le t.tree a ha) ha) (szStr_le t.device r h) h

theorem szCampaign_le (c : Campaign) (r : Int) (h : 0 ≤ r) : szCampaign c r ≤ r :=
  thn_le (fun _ _ => Int.le_refl _) (szSl_le szTask szTask_le c.tasks r h) h

def lim (sz : Nat) : Nat := if sz ≤ 1 then 1099511627776 else 2147483648
def rawL (_ : Nat) : Nat := 140737488355328
end Go.Dt
