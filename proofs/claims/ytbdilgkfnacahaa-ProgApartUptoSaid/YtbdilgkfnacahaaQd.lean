/-
 Are nodes a pattern? syntax.Right, walked.
-/
import Derived.Test.YtbdilgkfnacahaaQc
import Derived.Test.YtbdilgkfnacahaaKa
import Derived.Test.YtbdilgkfnacahaaKb
namespace Go.Proofs.Ytbdilgkfnacahaa
open Go.V Go
set_option maxRecDepth 100000
set_option maxHeartbeats 4000000
set_option linter.unusedSimpArgs false
set_option linter.unusedVariables false

/-- what a frame holds at a slot -/
def ixF_Qd (fr : Go.V.Fr) (k : Nat) : Go.V.D := Go.V.nth .junk fr.loc k

theorem plain_ev {s0 : St} {n : Nod} (hn : n.ok) : Ev pv 80 [.agg (nodC n)] s0 (.bool (plainN n)) s0 := by
 refine Ev.mk1 rfl fi80 rfl rfl rfl ?_
 dsimp only [List.cons_append, List.nil_append, List.length, Nat.reduceSub, Nat.reduceAdd, List.replicate_succ, List.replicate_zero]
 have hSb : (enterSt .ro s0).bs = s0.bs := rfl
 have hF : (enterSt .ro s0).flr ≤ s0.bs.length := Nat.le_refl _
 have hH : Has s0.bs.length (enterSt .ro s0) (enterSt .ro s0) [] := Has.start (Nat.le_refl _) (Nat.le_refl _)
 generalize enterSt .ro s0 = S at *
 have hrd := hn.1.arg s0.bs.length S
 have hrl := hn.2.1
 try refine qy ?_
 repeat refine qq ?_
 try generalize hK : SeqQ _ _ _ _ = K
 refine EvC.reg ?_
 refine qb hH fun k1 st hk1 hH => ?_
 try dsimp only [u2, u1, u3, u4, setMany, u5, u6, D.cells, Nat.reduceAdd, nodC] at hH
 refine qm ?_
 refine EvO.nil ?_
 try subst hK
 try refine qy ?_
 repeat refine qq ?_
 try generalize hK : SeqQ _ _ _ _ = K
 refine EvC.reg ?_
 refine qp (o := 0) ?_
 refine ql hH at0 ?_
 refine qg ?_
 refine qm ?_
 refine EvO.nil ?_
 try subst hK
 try refine qy ?_
 repeat refine qq ?_
 refine EvC.cutL 2 (.bool (((n.op == 2) || ((n.rs.length : Nat) : Int) == 0) && ((n.op == 5) || ((n.mn == 0) && (n.mx == 0) && !n.lz)) && ((n.op == 6) || (n.cap == 0)))) [] ?_ (fun ff tmp => ?_)
 ·refine qp (o := 0) ?_
  refine ql hH at0 ?_
  refine qg ?_
  refine qm ?_
  refine EvO.two 10 rfl (fun hg3 => ?_) (fun hg3 => ?_)
  ·refine qs ?_ (hg := wn hg3)
   refine qs ?_ (hg := wn hg3)
   refine qs ?_ (hg := wn hg3)
   refine qs ?_ (hg := wn hg3)
   refine qt hg3 ?_
   refine qm ?_
   refine qm ?_
   refine qm ?_
   refine EvO.two 18 rfl (fun hg11 => ?_) (fun hg11 => ?_)
   ·refine qs ?_ (hg := wn hg11)
    refine qs ?_ (hg := wn hg11)
    refine qs ?_ (hg := wn hg11)
    refine qs ?_ (hg := wn hg11)
    refine qs ?_
    refine qs ?_
    refine qs ?_
    refine qs ?_ (hg := wn hg11)
    refine qs ?_ (hg := wn hg11)
    refine qs ?_
    refine qs ?_
    refine qs ?_
    refine qs ?_ (hg := wn hg11)
    refine qt hg11 ?_
    refine qg ?_
    refine qm ?_
    refine qp (o := 0) ?_
    refine ql hH at0 ?_
    refine qg ?_
    refine qm ?_
    refine EvO.two 38 rfl (fun hg31 => ?_) (fun hg31 => ?_)
    ·refine qs ?_ (hg := wn hg31)
     refine qs ?_ (hg := wn hg31)
     refine qs ?_ (hg := wn hg31)
     refine qt hg31 ?_
     refine qg ?_
     refine qm ?_
     refine EvO.nil (leafL ?_)
     try dsimp only [setW, List.foldl, nth, u2, u1]
     try dsimp only [Fr.putO, Fr.put, Fr.clean, Fr.ev, Fr.get, nth, Go.V.look, u1, u2, v1, v2, v3, v4, v5, v6, v7, List.length, u3, u4, Nat.reduceSub, Nat.reduceAdd, List.map]
     all_goals (simp [hg3, hg11, hg31]; done)
    ·refine qp (o := 5) ?_ (hg := wi hg31)
     refine ql hH at0 ?_ (hg := wi hg31)
     refine qg ?_ (hg := wi hg31)
     refine qu hg31 ?_
     refine qg ?_
     refine qm ?_
     refine EvO.nil (leafL ?_)
     try dsimp only [setW, List.foldl, nth, u2, u1]
     try dsimp only [Fr.putO, Fr.put, Fr.clean, Fr.ev, Fr.get, nth, Go.V.look, u1, u2, v1, v2, v3, v4, v5, v6, v7, List.length, u3, u4, Nat.reduceSub, Nat.reduceAdd, List.map]
     all_goals (simp [hg3, hg11, hg31]; done)
   ·refine qp (o := 2) ?_ (hg := wi hg11)
    refine ql hH at0 ?_ (hg := wi hg11)
    refine qg ?_ (hg := wi hg11)
    refine qm ?_ (hg := wi hg11)
    refine EvO.two 22 rfl (fun hg15 => ?_) (fun hg15 => ?_)
    ·refine qp (o := 3) ?_ (hg := wi hg15)
     refine ql hH at0 ?_ (hg := wi hg15)
     refine qg ?_ (hg := wi hg15)
     refine EvO.pickT (wantD_is rfl rfl rfl hg11) rfl hg15 (put_T rfl _) ?_
     refine qm ?_ (hg := wi hg11)
     refine EvO.two 27 rfl (fun hg20 => ?_) (fun hg20 => ?_)
     ·refine qp (o := 4) ?_ (hg := wi hg20)
      refine ql hH at0 ?_ (hg := wi hg20)
      refine qg ?_ (hg := wi hg20)
      refine EvO.pickT (wantD_is rfl rfl rfl hg11) rfl hg20 (put_T rfl _) ?_
      refine qu hg11 ?_
      refine qg ?_
      refine qm ?_
      refine EvO.two 34 rfl (fun hg27 => ?_) (fun hg27 => ?_)
      ·refine qp (o := 0) ?_ (hg := wi hg27)
       refine ql hH at0 ?_ (hg := wi hg27)
       refine qg ?_ (hg := wi hg27)
       refine qm ?_ (hg := wi hg27)
       refine EvO.two 38 rfl (fun hg31 => ?_) (fun hg31 => ?_)
       ·refine qs ?_ (hg := wn hg31)
        refine qs ?_ (hg := wn hg31)
        refine qs ?_ (hg := wn hg31)
        refine EvO.pickT (wantD_is rfl rfl rfl hg27) rfl hg31 (put_T rfl _) ?_
        refine qt hg27 ?_
        refine qm ?_
        refine EvO.nil (leafL ?_)
        try dsimp only [setW, List.foldl, nth, u2, u1]
        try dsimp only [Fr.putO, Fr.put, Fr.clean, Fr.ev, Fr.get, nth, Go.V.look, u1, u2, v1, v2, v3, v4, v5, v6, v7, List.length, u3, u4, Nat.reduceSub, Nat.reduceAdd, List.map]
        all_goals (simp [hg3, hg11, hg15, hg20, hg27, hg31]; done)
       ·refine qp (o := 5) ?_ (hg := wi hg31)
        refine ql hH at0 ?_ (hg := wi hg31)
        refine qg ?_ (hg := wi hg31)
        refine EvO.pickF (wantD_is rfl rfl rfl hg27) rfl hg31 (put_T rfl _) ?_
        refine qt hg27 ?_
        refine qm ?_
        refine EvO.nil (leafL ?_)
        try dsimp only [setW, List.foldl, nth, u2, u1]
        try dsimp only [Fr.putO, Fr.put, Fr.clean, Fr.ev, Fr.get, nth, Go.V.look, u1, u2, v1, v2, v3, v4, v5, v6, v7, List.length, u3, u4, Nat.reduceSub, Nat.reduceAdd, List.map]
        all_goals (simp [hg3, hg11, hg15, hg20, hg27, hg31]; done)
      ·refine qs ?_ (hg := wn hg27)
       refine qs ?_ (hg := wn hg27)
       refine qs ?_ (hg := wn hg27)
       refine qs ?_ (hg := wn hg27)
       refine qs ?_
       refine qs ?_
       refine qs ?_
       refine qs ?_ (hg := wn hg27)
       refine qu hg27 ?_
       refine qm ?_
       refine EvO.nil (leafL ?_)
       try dsimp only [setW, List.foldl, nth, u2, u1]
       try dsimp only [Fr.putO, Fr.put, Fr.clean, Fr.ev, Fr.get, nth, Go.V.look, u1, u2, v1, v2, v3, v4, v5, v6, v7, List.length, u3, u4, Nat.reduceSub, Nat.reduceAdd, List.map]
       all_goals (simp [hg3, hg11, hg15, hg20, hg27]; done)
     ·refine qs ?_ (hg := wn hg20)
      refine qs ?_ (hg := wn hg20)
      refine qs ?_ (hg := wn hg20)
      refine EvO.pickF (wantD_is rfl rfl rfl hg11) rfl hg20 (put_T rfl _) ?_
      refine qu hg11 ?_
      refine qg ?_
      refine qm ?_
      refine qs ?_
      refine qs ?_
      refine qs ?_
      refine qs ?_
      refine qs ?_
      refine qs ?_
      refine qs ?_
      refine qs ?_
      refine qg ?_
      refine qm ?_
      refine EvO.nil (leafL ?_)
      try dsimp only [setW, List.foldl, nth, u2, u1]
      try dsimp only [Fr.putO, Fr.put, Fr.clean, Fr.ev, Fr.get, nth, Go.V.look, u1, u2, v1, v2, v3, v4, v5, v6, v7, List.length, u3, u4, Nat.reduceSub, Nat.reduceAdd, List.map]
      all_goals (simp [hg3, hg11, hg15, hg20]; done)
    ·refine qs ?_ (hg := wn hg15)
     refine qs ?_ (hg := wn hg15)
     refine qs ?_ (hg := wn hg15)
     refine EvO.pickF (wantD_is rfl rfl rfl hg11) rfl hg15 (put_T rfl _) ?_
     refine qm ?_ (hg := wi hg11)
     refine qs ?_
     refine qs ?_
     refine qs ?_
     refine qg ?_ (hg := wi hg11)
     refine qu hg11 ?_
     refine qg ?_
     refine qm ?_
     refine qs ?_
     refine qs ?_
     refine qs ?_
     refine qs ?_
     refine qs ?_
     refine qs ?_
     refine qs ?_
     refine qs ?_
     refine qg ?_
     refine qm ?_
     refine EvO.nil (leafL ?_)
     try dsimp only [setW, List.foldl, nth, u2, u1]
     try dsimp only [Fr.putO, Fr.put, Fr.clean, Fr.ev, Fr.get, nth, Go.V.look, u1, u2, v1, v2, v3, v4, v5, v6, v7, List.length, u3, u4, Nat.reduceSub, Nat.reduceAdd, List.map]
     all_goals (simp [hg3, hg11, hg15]; done)
  ·refine qp (o := 1) ?_ (hg := wi hg3)
   refine ql hH at0 ?_ (hg := wi hg3)
   refine qn ?_ (hg := wi hg3)
   try simp only [List.length_map, List.length_append, List.length_cons, List.length_nil, List.length_set, List.length_replicate, List.length_reverse]
   refine qg ?_ (hg := wi hg3)
   refine qu hg3 ?_
   refine qm ?_
   refine EvO.two 16 rfl (fun hg9 => ?_) (fun hg9 => ?_)
   ·refine qm ?_ (hg := wi hg9)
    refine qm ?_ (hg := wi hg9)
    refine EvO.two 18 rfl (fun hg11 => ?_) (fun hg11 => ?_)
    ·refine qs ?_ (hg := wn hg11)
     refine qs ?_ (hg := wn hg11)
     refine qs ?_ (hg := wn hg11)
     refine qs ?_ (hg := wn hg11)
     refine qs ?_
     refine qs ?_
     refine qs ?_
     refine qs ?_ (hg := wn hg11)
     refine qs ?_ (hg := wn hg11)
     refine qs ?_
     refine qs ?_
     refine qs ?_
     refine qs ?_ (hg := wn hg11)
     refine EvO.pickT (wantD_is rfl rfl rfl hg9) rfl hg11 (put_T rfl _) ?_
     refine qt hg9 ?_
     refine qm ?_
     refine qp (o := 0) ?_
     refine ql hH at0 ?_
     refine qg ?_
     refine qm ?_
     refine EvO.two 38 rfl (fun hg31 => ?_) (fun hg31 => ?_)
     ·refine qs ?_ (hg := wn hg31)
      refine qs ?_ (hg := wn hg31)
      refine qs ?_ (hg := wn hg31)
      refine qt hg31 ?_
      refine qg ?_
      refine qm ?_
      refine EvO.nil (leafL ?_)
      try dsimp only [setW, List.foldl, nth, u2, u1]
      try dsimp only [Fr.putO, Fr.put, Fr.clean, Fr.ev, Fr.get, nth, Go.V.look, u1, u2, v1, v2, v3, v4, v5, v6, v7, List.length, u3, u4, Nat.reduceSub, Nat.reduceAdd, List.map]
      all_goals (simp [hg3, hg9, hg11, hg31]; done)
     ·refine qp (o := 5) ?_ (hg := wi hg31)
      refine ql hH at0 ?_ (hg := wi hg31)
      refine qg ?_ (hg := wi hg31)
      refine qu hg31 ?_
      refine qg ?_
      refine qm ?_
      refine EvO.nil (leafL ?_)
      try dsimp only [setW, List.foldl, nth, u2, u1]
      try dsimp only [Fr.putO, Fr.put, Fr.clean, Fr.ev, Fr.get, nth, Go.V.look, u1, u2, v1, v2, v3, v4, v5, v6, v7, List.length, u3, u4, Nat.reduceSub, Nat.reduceAdd, List.map]
      all_goals (simp [hg3, hg9, hg11, hg31]; done)
    ·refine qp (o := 2) ?_ (hg := wi hg11)
     refine ql hH at0 ?_ (hg := wi hg11)
     refine qg ?_ (hg := wi hg11)
     refine qm ?_ (hg := wi hg11)
     refine EvO.two 22 rfl (fun hg15 => ?_) (fun hg15 => ?_)
     ·refine qp (o := 3) ?_ (hg := wi hg15)
      refine ql hH at0 ?_ (hg := wi hg15)
      refine qg ?_ (hg := wi hg15)
      refine EvO.pickT (wantD_is rfl rfl rfl hg11) rfl hg15 (put_T rfl _) ?_
      refine qm ?_ (hg := wi hg11)
      refine EvO.two 27 rfl (fun hg20 => ?_) (fun hg20 => ?_)
      ·refine qp (o := 4) ?_ (hg := wi hg20)
       refine ql hH at0 ?_ (hg := wi hg20)
       refine qg ?_ (hg := wi hg20)
       refine EvO.pickT (wantD_is rfl rfl rfl hg11) rfl hg20 (put_T rfl _) ?_
       refine EvO.pickF (wantD_is rfl rfl rfl hg9) rfl hg11 (put_T rfl _) ?_
       refine qt hg9 ?_
       refine qm ?_
       refine EvO.two 34 rfl (fun hg27 => ?_) (fun hg27 => ?_)
       ·refine qp (o := 0) ?_ (hg := wi hg27)
        refine ql hH at0 ?_ (hg := wi hg27)
        refine qg ?_ (hg := wi hg27)
        refine qm ?_ (hg := wi hg27)
        refine EvO.two 38 rfl (fun hg31 => ?_) (fun hg31 => ?_)
        ·refine qs ?_ (hg := wn hg31)
         refine qs ?_ (hg := wn hg31)
         refine qs ?_ (hg := wn hg31)
         refine EvO.pickT (wantD_is rfl rfl rfl hg27) rfl hg31 (put_T rfl _) ?_
         refine qt hg27 ?_
         refine qm ?_
         refine EvO.nil (leafL ?_)
         try dsimp only [setW, List.foldl, nth, u2, u1]
         try dsimp only [Fr.putO, Fr.put, Fr.clean, Fr.ev, Fr.get, nth, Go.V.look, u1, u2, v1, v2, v3, v4, v5, v6, v7, List.length, u3, u4, Nat.reduceSub, Nat.reduceAdd, List.map]
         all_goals (simp [hg3, hg9, hg11, hg15, hg20, hg27, hg31]; done)
        ·refine qp (o := 5) ?_ (hg := wi hg31)
         refine ql hH at0 ?_ (hg := wi hg31)
         refine qg ?_ (hg := wi hg31)
         refine EvO.pickF (wantD_is rfl rfl rfl hg27) rfl hg31 (put_T rfl _) ?_
         refine qt hg27 ?_
         refine qm ?_
         refine EvO.nil (leafL ?_)
         try dsimp only [setW, List.foldl, nth, u2, u1]
         try dsimp only [Fr.putO, Fr.put, Fr.clean, Fr.ev, Fr.get, nth, Go.V.look, u1, u2, v1, v2, v3, v4, v5, v6, v7, List.length, u3, u4, Nat.reduceSub, Nat.reduceAdd, List.map]
         all_goals (simp [hg3, hg9, hg11, hg15, hg20, hg27, hg31]; done)
       ·refine qs ?_ (hg := wn hg27)
        refine qs ?_ (hg := wn hg27)
        refine qs ?_ (hg := wn hg27)
        refine qs ?_ (hg := wn hg27)
        refine qs ?_
        refine qs ?_
        refine qs ?_
        refine qs ?_ (hg := wn hg27)
        refine qu hg27 ?_
        refine qm ?_
        refine EvO.nil (leafL ?_)
        try dsimp only [setW, List.foldl, nth, u2, u1]
        try dsimp only [Fr.putO, Fr.put, Fr.clean, Fr.ev, Fr.get, nth, Go.V.look, u1, u2, v1, v2, v3, v4, v5, v6, v7, List.length, u3, u4, Nat.reduceSub, Nat.reduceAdd, List.map]
        all_goals (simp [hg3, hg9, hg11, hg15, hg20, hg27]; done)
      ·refine qs ?_ (hg := wn hg20)
       refine qs ?_ (hg := wn hg20)
       refine qs ?_ (hg := wn hg20)
       refine EvO.pickF (wantD_is rfl rfl rfl hg11) rfl hg20 (put_T rfl _) ?_
       refine EvO.pickF (wantD_is rfl rfl rfl hg9) rfl hg11 (put_T rfl _) ?_
       refine qt hg9 ?_
       refine qm ?_
       refine qs ?_
       refine qs ?_
       refine qs ?_
       refine qs ?_
       refine qs ?_
       refine qs ?_
       refine qs ?_
       refine qs ?_
       refine qg ?_
       refine qm ?_
       refine EvO.nil (leafL ?_)
       try dsimp only [setW, List.foldl, nth, u2, u1]
       try dsimp only [Fr.putO, Fr.put, Fr.clean, Fr.ev, Fr.get, nth, Go.V.look, u1, u2, v1, v2, v3, v4, v5, v6, v7, List.length, u3, u4, Nat.reduceSub, Nat.reduceAdd, List.map]
       all_goals (simp [hg3, hg9, hg11, hg15, hg20]; done)
     ·refine qs ?_ (hg := wn hg15)
      refine qs ?_ (hg := wn hg15)
      refine qs ?_ (hg := wn hg15)
      refine EvO.pickF (wantD_is rfl rfl rfl hg11) rfl hg15 (put_T rfl _) ?_
      refine qm ?_ (hg := wi hg11)
      refine qs ?_
      refine qs ?_
      refine qs ?_
      refine qg ?_ (hg := wi hg11)
      refine EvO.pickF (wantD_is rfl rfl rfl hg9) rfl hg11 (put_T rfl _) ?_
      refine qt hg9 ?_
      refine qm ?_
      refine qs ?_
      refine qs ?_
      refine qs ?_
      refine qs ?_
      refine qs ?_
      refine qs ?_
      refine qs ?_
      refine qs ?_
      refine qg ?_
      refine qm ?_
      refine EvO.nil (leafL ?_)
      try dsimp only [setW, List.foldl, nth, u2, u1]
      try dsimp only [Fr.putO, Fr.put, Fr.clean, Fr.ev, Fr.get, nth, Go.V.look, u1, u2, v1, v2, v3, v4, v5, v6, v7, List.length, u3, u4, Nat.reduceSub, Nat.reduceAdd, List.map]
      all_goals (simp [hg3, hg9, hg11, hg15]; done)
   ·refine qs ?_ (hg := wn hg9)
    refine qs ?_ (hg := wn hg9)
    refine qs ?_
    refine qs ?_
    refine qs ?_
    refine qs ?_
    refine qs ?_
    refine qs ?_
    refine qs ?_
    refine qs ?_
    refine qs ?_
    refine qs ?_
    refine qs ?_
    refine qs ?_
    refine qs ?_
    refine qs ?_ (hg := wn hg9)
    refine qu hg9 ?_
    refine qm ?_
    refine qs ?_
    refine qs ?_
    refine qs ?_
    refine qs ?_
    refine qs ?_
    refine qs ?_
    refine qs ?_
    refine qs ?_
    refine qg ?_
    refine qm ?_
    refine EvO.nil (leafL ?_)
    try dsimp only [setW, List.foldl, nth, u2, u1]
    try dsimp only [Fr.putO, Fr.put, Fr.clean, Fr.ev, Fr.get, nth, Go.V.look, u1, u2, v1, v2, v3, v4, v5, v6, v7, List.length, u3, u4, Nat.reduceSub, Nat.reduceAdd, List.map]
    all_goals (simp [hg3, hg9]; done)
 try dsimp only [setW, List.foldl, nth, u2, u1]
 try dsimp only [Fr.putO, Fr.put, Fr.clean, Fr.ev, Fr.get, nth, Go.V.look, u1, u2, v1, v2, v3, v4, v5, v6, v7, List.length, u3, u4, Nat.reduceSub, Nat.reduceAdd, List.map]
 try refine qy ?_
 refine EvC.ret ⟨fun i h => (by cases h), _, rfl, leave_ro (by simp) hSb hH (rfl)⟩

theorem shaped2_ev {s0 : St} {n : Nod} (hn : n.ok) {g : Nat} (hg : g ≤ 1048576) : Ev pv 66 [.agg (nodC n), .int .i64 (g : Nat)] s0 (.tup [.int .i64 (shapeN n (g : Nat)).1, .bool (shapeN n (g : Nat)).2]) s0 := by
 refine Ev.mk1 rfl fi66 rfl rfl rfl ?_
 dsimp only [List.cons_append, List.nil_append, List.length, Nat.reduceSub, Nat.reduceAdd, List.replicate_succ, List.replicate_zero]
 have hSb : (enterSt .ro s0).bs = s0.bs := rfl
 have hF : (enterSt .ro s0).flr ≤ s0.bs.length := Nat.le_refl _
 have hH : Has s0.bs.length (enterSt .ro s0) (enterSt .ro s0) [] := Has.start (Nat.le_refl _) (Nat.le_refl _)
 generalize enterSt .ro s0 = S at *
 have hrd := hn.1.arg s0.bs.length S
 have hrl := hn.2.1
 try refine qy ?_
 repeat refine qq ?_
 try generalize hK : SeqQ _ _ _ _ = K
 refine EvC.reg ?_
 refine qb hH fun k2 st hk2 hH => ?_
 try dsimp only [u2, u1, u3, u4, setMany, u5, u6, D.cells, Nat.reduceAdd, nodC] at hH
 refine qm ?_
 refine qm ?_
 refine EvO.nil ?_
 try subst hK
 try refine qy ?_
 repeat refine qq ?_
 try generalize hK : SeqQ _ _ _ _ = K
 refine EvC.reg ?_
 refine EvO.hloadS (m := 7) hH rfl (ev rfl) (by exact at0) (by dsimp only [List.drop_succ_cons, List.drop_zero, List.take_succ_cons, List.take_zero, nodC] <;> rfl) rfl rfl (by dsimp only [Fr.put, List.set_cons_succ, List.set_cons_zero] <;> rfl) ?_
 refine EvO.hcall rfl rfl (plain_ev hn) (by dsimp only [Fr.put, List.set_cons_succ, List.set_cons_zero] <;> rfl) ?_
 refine qg ?_
 refine EvO.nil ?_
 try subst hK
 try refine qy ?_
 unfold shapeN
 cases hp : plainN n with
 | false =>
  rw [if_pos rfl]
  try refine qy ?_
  repeat refine qq ?_
  refine EvC.cond (v := true) (by rfl) (fun _ => ?_) (fun h => by cases h)
  try refine qy ?_
  repeat refine qq ?_
  try generalize hK : SeqQ _ _ _ _ = K
  refine EvC.reg ?_
  refine qm ?_
  refine qm ?_
  refine EvO.nil ?_
  try subst hK
  try refine qy ?_
  refine EvC.ret ⟨fun i h => (by cases h), _, rfl, leave_ro (by simp) hSb hH (rfl)⟩
 | true =>
  rw [if_neg (by simp)]
  try refine qy ?_
  repeat refine qq ?_
  refine EvC.cond (v := false) (by rfl) (fun h => by cases h) (fun _ => ?_)
  try refine qy ?_
  refine EvC.skip ?_
  try refine qy ?_
  repeat refine qq ?_
  try generalize hK : SeqQ _ _ _ _ = K
  refine EvC.reg ?_
  refine qp (o := 0) ?_
  refine ql hH at0 ?_
  refine EvO.nil ?_
  try subst hK
  try refine qy ?_
  repeat refine qq ?_
  refine EvC.block ?_
  try refine qy ?_
  repeat refine qq ?_
  try generalize hK : SeqQ _ _ _ _ = K
  refine EvC.reg ?_
  refine qg ?_
  refine qm ?_
  refine EvO.nil ?_
  try subst hK
  try refine qy ?_
  by_cases q1 : n.op = 1
  ·rw [if_pos (.inl q1)]
   try refine qy ?_
   repeat refine qq ?_
   refine EvC.cond (v := true) (by dsimp only [Fr.ev, Fr.get, nth, Go.V.look]; simp [q1]) (fun _ => ?_) (fun h => by cases h)
   try refine qy ?_
   refine EvC.skip ?_
   try refine qy ?_
   repeat refine qq ?_
   refine EvC.cond (v := true) (by dsimp only [Fr.ev, Fr.get, nth, Go.V.look]; simp [q1]) (fun _ => ?_) (fun h => by cases h)
   try refine qy ?_
   repeat refine qq ?_
   try generalize hK : SeqQ _ _ _ _ = K
   refine EvC.reg ?_
   refine qp (o := 6) ?_
   refine ql hH at0 ?_
   refine qg ?_
   refine qm ?_
   refine qm ?_
   refine EvO.nil ?_
   try subst hK
   try refine qy ?_
   refine EvC.ret ⟨fun i h => (by cases h), _, rfl, leave_ro (by simp) hSb hH (rfl)⟩
  try refine qy ?_
  repeat refine qq ?_
  refine EvC.cond (v := false) (by dsimp only [Fr.ev, Fr.get, nth, Go.V.look]; simp [q1]) (fun h => by cases h) (fun _ => ?_)
  try refine qy ?_
  repeat refine qq ?_
  try generalize hK : SeqQ _ _ _ _ = K
  refine EvC.reg ?_
  refine qg ?_
  refine qm ?_
  refine EvO.nil ?_
  try subst hK
  try refine qy ?_
  by_cases q7 : n.op = 7
  ·rw [if_pos (.inr (.inl q7))]
   try refine qy ?_
   repeat refine qq ?_
   refine EvC.cond (v := true) (by dsimp only [Fr.ev, Fr.get, nth, Go.V.look]; simp [q7]) (fun _ => ?_) (fun h => by cases h)
   try refine qy ?_
   refine EvC.skip ?_
   try refine qy ?_
   repeat refine qq ?_
   refine EvC.cond (v := true) (by dsimp only [Fr.ev, Fr.get, nth, Go.V.look]; simp [q7]) (fun _ => ?_) (fun h => by cases h)
   try refine qy ?_
   repeat refine qq ?_
   try generalize hK : SeqQ _ _ _ _ = K
   refine EvC.reg ?_
   refine qp (o := 6) ?_
   refine ql hH at0 ?_
   refine qg ?_
   refine qm ?_
   refine qm ?_
   refine EvO.nil ?_
   try subst hK
   try refine qy ?_
   refine EvC.ret ⟨fun i h => (by cases h), _, rfl, leave_ro (by simp) hSb hH (rfl)⟩
  try refine qy ?_
  repeat refine qq ?_
  refine EvC.cond (v := false) (by dsimp only [Fr.ev, Fr.get, nth, Go.V.look]; simp [q7]) (fun h => by cases h) (fun _ => ?_)
  try refine qy ?_
  repeat refine qq ?_
  try generalize hK : SeqQ _ _ _ _ = K
  refine EvC.reg ?_
  refine qg ?_
  refine qm ?_
  refine EvO.nil ?_
  try subst hK
  try refine qy ?_
  by_cases q8 : n.op = 8
  ·rw [if_pos (.inr (.inr q8))]
   try refine qy ?_
   repeat refine qq ?_
   refine EvC.cond (v := true) (by dsimp only [Fr.ev, Fr.get, nth, Go.V.look]; simp [q8]) (fun _ => ?_) (fun h => by cases h)
   try refine qy ?_
   repeat refine qq ?_
   try generalize hK : SeqQ _ _ _ _ = K
   refine EvC.reg ?_
   refine qp (o := 6) ?_
   refine ql hH at0 ?_
   refine qg ?_
   refine qm ?_
   refine qm ?_
   refine EvO.nil ?_
   try subst hK
   try refine qy ?_
   refine EvC.ret ⟨fun i h => (by cases h), _, rfl, leave_ro (by simp) hSb hH (rfl)⟩
  try refine qy ?_
  repeat refine qq ?_
  refine EvC.cond (v := false) (by dsimp only [Fr.ev, Fr.get, nth, Go.V.look]; simp [q8]) (fun h => by cases h) (fun _ => ?_)
  try refine qy ?_
  rw [if_neg (by omega)]
  try refine qy ?_
  repeat refine qq ?_
  try generalize hK : SeqQ _ _ _ _ = K
  refine EvC.reg ?_
  refine qg ?_
  refine qm ?_
  refine EvO.nil ?_
  try subst hK
  try refine qy ?_
  repeat refine qq ?_
  refine qc (fun q2 => ?_) (fun q2 => ?_) <;> try simp only [cs] at q2
  ·rw [if_pos q2]
   try refine qy ?_
   repeat refine qq ?_
   refine EvC.cutW [4, 5] (fun ff => ff 4 = .int .i64 0 ∧ ff 5 = .bool ((n.kids == 0) && rightS n.rs)) ?_ (fun ff tmp hff => ?_)
   ·refine qp (o := 6) ?_
    refine ql hH at0 ?_
    refine qg ?_
    refine qm ?_
    refine EvO.two 23 rfl (fun hg3 => ?_) (fun hg3 => ?_)
    ·refine qp (o := 1) ?_ (hg := wi hg3)
     refine ql hH at0 ?_ (hg := wi hg3)
     refine EvO.hcall (wantD_is rfl rfl rfl hg3) rfl (right_ev (hrd.rows hH) hrl) (put_T rfl _) ?_
     refine qt hg3 ?_
     refine qm ?_
     refine qm ?_
     refine EvO.nil (leafW ?_ ?_)
     ·dsimp only [setW, List.foldl_cons, List.foldl_nil, nth, List.set_cons_zero, List.set_cons_succ]
     ·try dsimp only [nth]
      try dsimp only [Fr.putO, Fr.put, Fr.clean, Fr.ev, Fr.get, nth, Go.V.look, u1, u2, v1, v2, v3, v4, v5, v6, v7, List.length, u3, u4, Nat.reduceSub, Nat.reduceAdd, List.map]
      refine ⟨?_, ?_⟩ <;> (first | rfl | (simp [hg3]; done) | (simp_all; done) | (simp [hg3]; omega) | (simp_all; omega))
    ·refine qs ?_ (hg := wn hg3)
     refine qs ?_ (hg := wn hg3)
     refine qs ?_ (hg := wn hg3)
     refine qu hg3 ?_
     refine qm ?_
     refine qm ?_
     refine EvO.nil (leafW ?_ ?_)
     ·dsimp only [setW, List.foldl_cons, List.foldl_nil, nth, List.set_cons_zero, List.set_cons_succ]
     ·try dsimp only [nth]
      try dsimp only [Fr.putO, Fr.put, Fr.clean, Fr.ev, Fr.get, nth, Go.V.look, u1, u2, v1, v2, v3, v4, v5, v6, v7, List.length, u3, u4, Nat.reduceSub, Nat.reduceAdd, List.map]
      refine ⟨?_, ?_⟩ <;> (first | rfl | (simp [hg3]; done) | (simp_all; done) | (simp [hg3]; omega) | (simp_all; omega))
   try dsimp only [setW, List.foldl, nth, u2, u1]
   obtain ⟨hff4, hff5⟩ := hff
   rw [hff4, hff5]
   try dsimp only [Fr.putO, Fr.put, Fr.clean, Fr.ev, Fr.get, nth, Go.V.look, u1, u2, v1, v2, v3, v4, v5, v6, v7, List.length, u3, u4, Nat.reduceSub, Nat.reduceAdd, List.map]
   try refine qy ?_
   refine EvC.ret ⟨fun i h => (by cases h), _, rfl, leave_ro (by simp) hSb hH (rfl)⟩
  rw [if_neg q2]
  try refine qy ?_
  repeat refine qq ?_
  try generalize hK : SeqQ _ _ _ _ = K
  refine EvC.reg ?_
  refine qg ?_
  refine qm ?_
  refine EvO.nil ?_
  try subst hK
  try refine qy ?_
  by_cases q3 : n.op = 3
  ·rw [if_pos (.inl q3)]
   try refine qy ?_
   repeat refine qq ?_
   refine EvC.cond (v := true) (by dsimp only [Fr.ev, Fr.get, nth, Go.V.look]; simp [q3]) (fun _ => ?_) (fun h => by cases h)
   try refine qy ?_
   refine EvC.skip ?_
   try refine qy ?_
   repeat refine qq ?_
   refine EvC.cond (v := true) (by dsimp only [Fr.ev, Fr.get, nth, Go.V.look]; simp [q3]) (fun _ => ?_) (fun h => by cases h)
   try refine qy ?_
   repeat refine qq ?_
   try generalize hK : SeqQ _ _ _ _ = K
   refine EvC.reg ?_
   refine qp (o := 6) ?_
   refine ql hH at0 ?_
   refine qp (o := 6) ?_
   refine ql hH at0 ?_
   refine qg ?_
   refine qm ?_
   refine qm ?_
   refine EvO.nil ?_
   try subst hK
   try refine qy ?_
   refine EvC.ret ⟨fun i h => (by cases h), _, rfl, leave_ro (by simp) hSb hH (rfl)⟩
  try refine qy ?_
  repeat refine qq ?_
  refine EvC.cond (v := false) (by dsimp only [Fr.ev, Fr.get, nth, Go.V.look]; simp [q3]) (fun h => by cases h) (fun _ => ?_)
  try refine qy ?_
  repeat refine qq ?_
  try generalize hK : SeqQ _ _ _ _ = K
  refine EvC.reg ?_
  refine qg ?_
  refine qm ?_
  refine EvO.nil ?_
  try subst hK
  try refine qy ?_
  by_cases q4 : n.op = 4
  ·rw [if_pos (.inr q4)]
   try refine qy ?_
   repeat refine qq ?_
   refine EvC.cond (v := true) (by dsimp only [Fr.ev, Fr.get, nth, Go.V.look]; simp [q4]) (fun _ => ?_) (fun h => by cases h)
   try refine qy ?_
   repeat refine qq ?_
   try generalize hK : SeqQ _ _ _ _ = K
   refine EvC.reg ?_
   refine qp (o := 6) ?_
   refine ql hH at0 ?_
   refine qp (o := 6) ?_
   refine ql hH at0 ?_
   refine qg ?_
   refine qm ?_
   refine qm ?_
   refine EvO.nil ?_
   try subst hK
   try refine qy ?_
   refine EvC.ret ⟨fun i h => (by cases h), _, rfl, leave_ro (by simp) hSb hH (rfl)⟩
  rw [if_neg (by omega)]
  try refine qy ?_
  repeat refine qq ?_
  refine EvC.cond (v := false) (by dsimp only [Fr.ev, Fr.get, nth, Go.V.look]; simp [q4]) (fun h => by cases h) (fun _ => ?_)
  try refine qy ?_
  repeat refine qq ?_
  try generalize hK : SeqQ _ _ _ _ = K
  refine EvC.reg ?_
  refine qg ?_
  refine qm ?_
  refine EvO.nil ?_
  try subst hK
  try refine qy ?_
  repeat refine qq ?_
  refine qc (fun q5 => ?_) (fun q5 => ?_) <;> try simp only [cs] at q5
  ·rw [if_pos q5]
   try refine qy ?_
   repeat refine qq ?_
   refine EvC.cutW [4, 5] (fun ff => ff 4 = .int .i64 1 ∧ ff 5 = .bool ((n.kids == 1) && decide (n.mn ≥ 0) && decide (n.mn ≤ 30) && ((n.mx == -1) || (decide (n.mx ≥ n.mn) && decide (n.mx ≤ 30))))) ?_ (fun ff tmp hff => ?_)
   ·refine qp (o := 6) ?_
    refine ql hH at0 ?_
    refine qg ?_
    refine qm ?_
    refine EvO.two 41 rfl (fun hg3 => ?_) (fun hg3 => ?_)
    ·refine qp (o := 2) ?_ (hg := wi hg3)
     refine ql hH at0 ?_ (hg := wi hg3)
     refine qg ?_ (hg := wi hg3)
     refine qt hg3 ?_
     refine qm ?_
     refine EvO.two 46 rfl (fun hg8 => ?_) (fun hg8 => ?_)
     ·refine qp (o := 2) ?_ (hg := wi hg8)
      refine ql hH at0 ?_ (hg := wi hg8)
      refine qg ?_ (hg := wi hg8)
      refine qt hg8 ?_
      refine qm ?_
      refine EvO.two 51 rfl (fun hg13 => ?_) (fun hg13 => ?_)
      ·refine qp (o := 3) ?_ (hg := wi hg13)
       refine ql hH at0 ?_ (hg := wi hg13)
       refine qg ?_ (hg := wi hg13)
       refine qm ?_ (hg := wi hg13)
       refine EvO.two 55 rfl (fun hg17 => ?_) (fun hg17 => ?_)
       ·refine qs ?_ (hg := wn hg17)
        refine qs ?_ (hg := wn hg17)
        refine qs ?_ (hg := wn hg17)
        refine qs ?_ (hg := wn hg17)
        refine qs ?_ (hg := wn hg17)
        refine qs ?_ (hg := wn hg17)
        refine qs ?_
        refine qs ?_
        refine qs ?_
        refine qs ?_ (hg := wn hg17)
        refine EvO.pickT (wantD_is rfl rfl rfl hg13) rfl hg17 (put_T rfl _) ?_
        refine qt hg13 ?_
        refine qm ?_
        refine qm ?_
        refine EvO.nil (leafW ?_ ?_)
        ·dsimp only [setW, List.foldl_cons, List.foldl_nil, nth, List.set_cons_zero, List.set_cons_succ]
        ·try dsimp only [nth]
         try dsimp only [Fr.putO, Fr.put, Fr.clean, Fr.ev, Fr.get, nth, Go.V.look, u1, u2, v1, v2, v3, v4, v5, v6, v7, List.length, u3, u4, Nat.reduceSub, Nat.reduceAdd, List.map]
         refine ⟨?_, ?_⟩ <;> (first | rfl | (simp [hg3, hg8, hg13, hg17]; done) | (simp_all; done) | (simp [hg3, hg8, hg13, hg17]; omega) | (simp_all; omega))
       ·refine qp (o := 3) ?_ (hg := wi hg17)
        refine ql hH at0 ?_ (hg := wi hg17)
        refine qp (o := 2) ?_ (hg := wi hg17)
        refine ql hH at0 ?_ (hg := wi hg17)
        refine qg ?_ (hg := wi hg17)
        refine qm ?_ (hg := wi hg17)
        refine EvO.two 61 rfl (fun hg23 => ?_) (fun hg23 => ?_)
        ·refine qp (o := 3) ?_ (hg := wi hg23)
         refine ql hH at0 ?_ (hg := wi hg23)
         refine qg ?_ (hg := wi hg23)
         refine EvO.pickT (wantD_is rfl rfl rfl hg17) rfl hg23 (put_T rfl _) ?_
         refine EvO.pickF (wantD_is rfl rfl rfl hg13) rfl hg17 (put_T rfl _) ?_
         refine qt hg13 ?_
         refine qm ?_
         refine qm ?_
         refine EvO.nil (leafW ?_ ?_)
         ·dsimp only [setW, List.foldl_cons, List.foldl_nil, nth, List.set_cons_zero, List.set_cons_succ]
         ·try dsimp only [nth]
          try dsimp only [Fr.putO, Fr.put, Fr.clean, Fr.ev, Fr.get, nth, Go.V.look, u1, u2, v1, v2, v3, v4, v5, v6, v7, List.length, u3, u4, Nat.reduceSub, Nat.reduceAdd, List.map]
          refine ⟨?_, ?_⟩ <;> (first | rfl | (simp [hg3, hg8, hg13, hg17, hg23]; done) | (simp_all; done) | (simp [hg3, hg8, hg13, hg17, hg23]; omega) | (simp_all; omega))
        ·refine qs ?_ (hg := wn hg23)
         refine qs ?_ (hg := wn hg23)
         refine qs ?_ (hg := wn hg23)
         refine EvO.pickF (wantD_is rfl rfl rfl hg17) rfl hg23 (put_T rfl _) ?_
         refine EvO.pickF (wantD_is rfl rfl rfl hg13) rfl hg17 (put_T rfl _) ?_
         refine qt hg13 ?_
         refine qm ?_
         refine qm ?_
         refine EvO.nil (leafW ?_ ?_)
         ·dsimp only [setW, List.foldl_cons, List.foldl_nil, nth, List.set_cons_zero, List.set_cons_succ]
         ·try dsimp only [nth]
          try dsimp only [Fr.putO, Fr.put, Fr.clean, Fr.ev, Fr.get, nth, Go.V.look, u1, u2, v1, v2, v3, v4, v5, v6, v7, List.length, u3, u4, Nat.reduceSub, Nat.reduceAdd, List.map]
          refine ⟨?_, ?_⟩ <;> (first | rfl | (simp [hg3, hg8, hg13, hg17, hg23]; done) | (simp_all; done) | (simp [hg3, hg8, hg13, hg17, hg23]; omega) | (simp_all; omega))
      ·refine qs ?_ (hg := wn hg13)
       refine qs ?_ (hg := wn hg13)
       refine qs ?_ (hg := wn hg13)
       refine qs ?_ (hg := wn hg13)
       refine qs ?_
       refine qs ?_
       refine qs ?_
       refine qs ?_
       refine qs ?_
       refine qs ?_
       refine qs ?_
       refine qs ?_
       refine qs ?_
       refine qs ?_
       refine qs ?_ (hg := wn hg13)
       refine qu hg13 ?_
       refine qm ?_
       refine qm ?_
       refine EvO.nil (leafW ?_ ?_)
       ·dsimp only [setW, List.foldl_cons, List.foldl_nil, nth, List.set_cons_zero, List.set_cons_succ]
       ·try dsimp only [nth]
        try dsimp only [Fr.putO, Fr.put, Fr.clean, Fr.ev, Fr.get, nth, Go.V.look, u1, u2, v1, v2, v3, v4, v5, v6, v7, List.length, u3, u4, Nat.reduceSub, Nat.reduceAdd, List.map]
        refine ⟨?_, ?_⟩ <;> (first | rfl | (simp [hg3, hg8, hg13]; done) | (simp_all; done) | (simp [hg3, hg8, hg13]; omega) | (simp_all; omega))
     ·refine qs ?_ (hg := wn hg8)
      refine qs ?_ (hg := wn hg8)
      refine qs ?_ (hg := wn hg8)
      refine qu hg8 ?_
      refine qm ?_
      refine qs ?_
      refine qs ?_
      refine qs ?_
      refine qs ?_
      refine qs ?_
      refine qs ?_
      refine qs ?_
      refine qs ?_
      refine qs ?_
      refine qs ?_
      refine qs ?_
      refine qs ?_
      refine qs ?_
      refine qs ?_
      refine qs ?_
      refine qg ?_
      refine qm ?_
      refine qm ?_
      refine EvO.nil (leafW ?_ ?_)
      ·dsimp only [setW, List.foldl_cons, List.foldl_nil, nth, List.set_cons_zero, List.set_cons_succ]
      ·try dsimp only [nth]
       try dsimp only [Fr.putO, Fr.put, Fr.clean, Fr.ev, Fr.get, nth, Go.V.look, u1, u2, v1, v2, v3, v4, v5, v6, v7, List.length, u3, u4, Nat.reduceSub, Nat.reduceAdd, List.map]
       refine ⟨?_, ?_⟩ <;> (first | rfl | (simp [hg3, hg8]; done) | (simp_all; done) | (simp [hg3, hg8]; omega) | (simp_all; omega))
    ·refine qs ?_ (hg := wn hg3)
     refine qs ?_ (hg := wn hg3)
     refine qs ?_ (hg := wn hg3)
     refine qu hg3 ?_
     refine qm ?_
     refine qs ?_
     refine qs ?_
     refine qs ?_
     refine qg ?_
     refine qm ?_
     refine qs ?_
     refine qs ?_
     refine qs ?_
     refine qs ?_
     refine qs ?_
     refine qs ?_
     refine qs ?_
     refine qs ?_
     refine qs ?_
     refine qs ?_
     refine qs ?_
     refine qs ?_
     refine qs ?_
     refine qs ?_
     refine qs ?_
     refine qg ?_
     refine qm ?_
     refine qm ?_
     refine EvO.nil (leafW ?_ ?_)
     ·dsimp only [setW, List.foldl_cons, List.foldl_nil, nth, List.set_cons_zero, List.set_cons_succ]
     ·try dsimp only [nth]
      try dsimp only [Fr.putO, Fr.put, Fr.clean, Fr.ev, Fr.get, nth, Go.V.look, u1, u2, v1, v2, v3, v4, v5, v6, v7, List.length, u3, u4, Nat.reduceSub, Nat.reduceAdd, List.map]
      refine ⟨?_, ?_⟩ <;> (first | rfl | (simp [hg3]; done) | (simp_all; done) | (simp [hg3]; omega) | (simp_all; omega))
   try dsimp only [setW, List.foldl, nth, u2, u1]
   obtain ⟨hff4, hff5⟩ := hff
   rw [hff4, hff5]
   try dsimp only [Fr.putO, Fr.put, Fr.clean, Fr.ev, Fr.get, nth, Go.V.look, u1, u2, v1, v2, v3, v4, v5, v6, v7, List.length, u3, u4, Nat.reduceSub, Nat.reduceAdd, List.map]
   try refine qy ?_
   refine EvC.ret ⟨fun i h => (by cases h), _, rfl, leave_ro (by simp) hSb hH (rfl)⟩
  rw [if_neg q5]
  try refine qy ?_
  repeat refine qq ?_
  try generalize hK : SeqQ _ _ _ _ = K
  refine EvC.reg ?_
  refine qg ?_
  refine qm ?_
  refine EvO.nil ?_
  try subst hK
  try refine qy ?_
  repeat refine qq ?_
  refine qc (fun q6 => ?_) (fun q6 => ?_) <;> try simp only [cs] at q6
  ·rw [if_pos q6]
   try refine qy ?_
   repeat refine qq ?_
   refine EvC.cutW [4, 5] (fun ff => ff 4 = .int .i64 1 ∧ ff 5 = .bool ((n.kids == 1) && (n.cap == ((g + 1 : Nat) : Int)) && decide (n.cap ≤ 4))) ?_ (fun ff tmp hff => ?_)
   ·refine qp (o := 6) ?_
    refine ql hH at0 ?_
    refine qg ?_
    refine qm ?_
    refine EvO.two 73 rfl (fun hg3 => ?_) (fun hg3 => ?_)
    ·refine qp (o := 5) ?_ (hg := wi hg3)
     refine ql hH at0 ?_ (hg := wi hg3)
     refine qm ?_ (hg := wi hg3)
     refine qA ?_ (hg := wi hg3)
     refine qg ?_ (hg := wi hg3)
     refine qt hg3 ?_
     refine qm ?_
     refine EvO.two 80 rfl (fun hg10 => ?_) (fun hg10 => ?_)
     ·refine qp (o := 5) ?_ (hg := wi hg10)
      refine ql hH at0 ?_ (hg := wi hg10)
      refine qg ?_ (hg := wi hg10)
      refine qt hg10 ?_
      refine qm ?_
      refine qm ?_
      refine EvO.nil (leafW ?_ ?_)
      ·dsimp only [setW, List.foldl_cons, List.foldl_nil, nth, List.set_cons_zero, List.set_cons_succ]
      ·try dsimp only [nth]
       try dsimp only [Fr.putO, Fr.put, Fr.clean, Fr.ev, Fr.get, nth, Go.V.look, u1, u2, v1, v2, v3, v4, v5, v6, v7, List.length, u3, u4, Nat.reduceSub, Nat.reduceAdd, List.map]
       refine ⟨?_, ?_⟩ <;> (first | rfl | (simp [hg3, hg10]; done) | (simp_all; done) | (simp [hg3, hg10]; omega) | (simp_all; omega))
     ·refine qs ?_ (hg := wn hg10)
      refine qs ?_ (hg := wn hg10)
      refine qs ?_ (hg := wn hg10)
      refine qu hg10 ?_
      refine qm ?_
      refine qm ?_
      refine EvO.nil (leafW ?_ ?_)
      ·dsimp only [setW, List.foldl_cons, List.foldl_nil, nth, List.set_cons_zero, List.set_cons_succ]
      ·try dsimp only [nth]
       try dsimp only [Fr.putO, Fr.put, Fr.clean, Fr.ev, Fr.get, nth, Go.V.look, u1, u2, v1, v2, v3, v4, v5, v6, v7, List.length, u3, u4, Nat.reduceSub, Nat.reduceAdd, List.map]
       refine ⟨?_, ?_⟩ <;> (first | rfl | (simp [hg3, hg10]; done) | (simp_all; done) | (simp [hg3, hg10]; omega) | (simp_all; omega))
    ·refine qs ?_ (hg := wn hg3)
     refine qs ?_ (hg := wn hg3)
     refine qs ?_ (hg := wn hg3)
     refine qs ?_ (hg := wn hg3)
     refine qs ?_ (hg := wn hg3)
     refine qu hg3 ?_
     refine qm ?_
     refine qs ?_
     refine qs ?_
     refine qs ?_
     refine qg ?_
     refine qm ?_
     refine qm ?_
     refine EvO.nil (leafW ?_ ?_)
     ·dsimp only [setW, List.foldl_cons, List.foldl_nil, nth, List.set_cons_zero, List.set_cons_succ]
     ·try dsimp only [nth]
      try dsimp only [Fr.putO, Fr.put, Fr.clean, Fr.ev, Fr.get, nth, Go.V.look, u1, u2, v1, v2, v3, v4, v5, v6, v7, List.length, u3, u4, Nat.reduceSub, Nat.reduceAdd, List.map]
      refine ⟨?_, ?_⟩ <;> (first | rfl | (simp [hg3]; done) | (simp_all; done) | (simp [hg3]; omega) | (simp_all; omega))
   try dsimp only [setW, List.foldl, nth, u2, u1]
   obtain ⟨hff4, hff5⟩ := hff
   rw [hff4, hff5]
   try dsimp only [Fr.putO, Fr.put, Fr.clean, Fr.ev, Fr.get, nth, Go.V.look, u1, u2, v1, v2, v3, v4, v5, v6, v7, List.length, u3, u4, Nat.reduceSub, Nat.reduceAdd, List.map]
   try refine qy ?_
   refine EvC.ret ⟨fun i h => (by cases h), _, rfl, leave_ro (by simp) hSb hH (rfl)⟩
  ·rw [if_neg q6]
   refine EvC.skip ?_
   try refine qy ?_
   repeat refine qq ?_
   try generalize hK : SeqQ _ _ _ _ = K
   refine EvC.reg ?_
   refine qm ?_
   refine qm ?_
   refine EvO.nil ?_
   try subst hK
   try refine qy ?_
   refine EvC.ret ⟨fun i h => (by cases h), _, rfl, leave_ro (by simp) hSb hH (rfl)⟩

theorem nod_refs {n : Nod} (h : n.ok) : refs (nodC n) = 0 := by
 have := h.1.ref
 simp only [nodC, refs, D.ref, this, Nat.max_self, Nat.zero_max, Nat.max_zero]

def walkC (d : D) (at_ g : Nat) : List D := [d, .int .i64 (at_ : Nat), .int .i64 (g : Nat)]

theorem one_ev {l : List Nod} {d : D} (hl : l.length ≤ 1048576) (hi : ∀ n ∈ l, n.ok) (hd : SlD d 7 (l.map nodC)) : ∀ (f : Nat) {N k : Nat} {S s0 : St} {H : List Ent} {at_ g : Nat}, f ≤ 241 → g ≤ 4 → Has N S s0 (.box k (.mem 0 false (walkC d at_ g)) :: H) →
  ∃ r st', Ev pv 46 [.ptr k 0 0, .int .i64 ((241 - f : Nat) : Int)] s0 r st' ∧ r = .bool (oneS l f at_ g).isSome ∧ ∃ a' g', Has N S st' (.box k (.mem 0 false (walkC d a' g')) :: H) ∧ g' ≤ 4 ∧ ∀ q, oneS l f at_ g = some q → a' = q.1 ∧ g' = q.2 := by
 intro f
 induction f with
 | zero =>
  intro N k S s0 H at_ g hf hg hH
  refine Ev.mkE rfl fi46 rfl rfl rfl ?_
  dsimp only [List.cons_append, List.nil_append, List.length, Nat.reduceSub, Nat.reduceAdd, List.replicate_succ, List.replicate_zero]
  have hH0 := hH
  have hH := hH.enterRw
  have hS2 : (enterSt .rw s0).bs = s0.bs := rfl
  generalize enterSt .rw s0 = S2 at *
  have hc := hd.arg N S2
  try refine qy ?_
  repeat refine qq ?_
  try generalize hK : SeqQ _ _ _ _ = K
  refine EvC.reg ?_
  refine qm ?_
  refine EvO.nil ?_
  try subst hK
  try refine qy ?_
  repeat refine qq ?_
  refine EvC.cutT 21 (.bool (decide ((at_ : Int) ≥ (l.length : Nat)) || decide (((241 - 0 : Nat) : Int) > 240))) [] ?_ (fun ff tmp htmp => ?_)
  ·refine qm ?_
   refine qg ?_
   refine qp (o := 1) ?_
   refine ql hH at0 ?_
   refine qm ?_
   refine qg ?_
   refine qp (o := 0) ?_
   refine ql hH at0 ?_
   refine qn ?_
   try simp only [List.length_map, List.length_append, List.length_cons, List.length_nil, List.length_set, List.length_replicate, List.length_reverse]
   refine qg ?_
   refine qm ?_
   refine EvO.two 18 rfl (fun hg10 => ?_) (fun hg10 => ?_)
   ·refine qs ?_ (hg := wn hg10)
    refine qs ?_ (hg := wn hg10)
    refine qt hg10 ?_
    refine EvO.nil (leafT ?_ ?_)
    ·try dsimp only [setW, List.foldl, nth, u2, u1]
     all_goals (first | rfl | simp)
    ·try dsimp only [Fr.putO, Fr.put, Fr.clean, Fr.ev, Fr.get, nth, Go.V.look, u1, u2, v1, v2, v3, v4, v5, v6, v7, List.length, u3, u4, Nat.reduceSub, Nat.reduceAdd, List.map]
     all_goals (simp [hg10]; done)
   ·refine qm ?_ (hg := wi hg10)
    refine qg ?_ (hg := wi hg10)
    refine qu hg10 ?_
    refine EvO.nil (leafT ?_ ?_)
    ·try dsimp only [setW, List.foldl, nth, u2, u1]
     all_goals (first | rfl | simp)
    ·try dsimp only [Fr.putO, Fr.put, Fr.clean, Fr.ev, Fr.get, nth, Go.V.look, u1, u2, v1, v2, v3, v4, v5, v6, v7, List.length, u3, u4, Nat.reduceSub, Nat.reduceAdd, List.map]
     all_goals (simp [hg10]; done)
  try dsimp only [setW, List.foldl, nth, u2, u1]
  try dsimp only [Fr.putO, Fr.put, Fr.clean, Fr.ev, Fr.get, nth, Go.V.look, u1, u2, v1, v2, v3, v4, v5, v6, v7, List.length, u3, u4, Nat.reduceSub, Nat.reduceAdd, List.map]
  try refine qy ?_
  have hT : (decide ((at_ : Int) ≥ (l.length : Nat)) || decide (((241 - 0 : Nat) : Int) > 240)) = true := by simp
  rw [hT] at htmp
  try refine qy ?_
  repeat refine qq ?_
  refine EvC.cond (v := true) (by assumption) (fun _ => ?_) (fun h => by cases h)
  try refine qy ?_
  repeat refine qq ?_
  try generalize hK : SeqQ _ _ _ _ = K
  refine EvC.reg ?_
  refine qm ?_
  refine EvO.nil ?_
  try subst hK
  try refine qy ?_
  refine EvC.ret ⟨fun i h => (by cases h), _, _, _, rfl, leaveD_rw (rfl), ?_⟩
  exact ⟨rfl, _, _, hH0.leaveRw1 hS2 hH, hg, fun q hq => by simp [oneS] at hq⟩
 | succ f ih =>
  intro N k S s0 H at_ g hf hg hH
  refine Ev.mkE rfl fi46 rfl rfl rfl ?_
  dsimp only [List.cons_append, List.nil_append, List.length, Nat.reduceSub, Nat.reduceAdd, List.replicate_succ, List.replicate_zero]
  have hH0 := hH
  have hH := hH.enterRw
  have hS2 : (enterSt .rw s0).bs = s0.bs := rfl
  generalize enterSt .rw s0 = S2 at *
  have hc := hd.arg N S2
  try refine qy ?_
  repeat refine qq ?_
  try generalize hK : SeqQ _ _ _ _ = K
  refine EvC.reg ?_
  refine qm ?_
  refine EvO.nil ?_
  try subst hK
  try refine qy ?_
  repeat refine qq ?_
  refine EvC.cutT 21 (.bool (decide ((at_ : Int) ≥ (l.length : Nat)) || decide (((241 - (f + 1) : Nat) : Int) > 240))) [] ?_ (fun ff tmp htmp => ?_)
  ·refine qm ?_
   refine qg ?_
   refine qp (o := 1) ?_
   refine ql hH at0 ?_
   refine qm ?_
   refine qg ?_
   refine qp (o := 0) ?_
   refine ql hH at0 ?_
   refine qn ?_
   try simp only [List.length_map, List.length_append, List.length_cons, List.length_nil, List.length_set, List.length_replicate, List.length_reverse]
   refine qg ?_
   refine qm ?_
   refine EvO.two 18 rfl (fun hg10 => ?_) (fun hg10 => ?_)
   ·refine qs ?_ (hg := wn hg10)
    refine qs ?_ (hg := wn hg10)
    refine qt hg10 ?_
    refine EvO.nil (leafT ?_ ?_)
    ·try dsimp only [setW, List.foldl, nth, u2, u1]
     all_goals (first | rfl | simp)
    ·try dsimp only [Fr.putO, Fr.put, Fr.clean, Fr.ev, Fr.get, nth, Go.V.look, u1, u2, v1, v2, v3, v4, v5, v6, v7, List.length, u3, u4, Nat.reduceSub, Nat.reduceAdd, List.map]
     all_goals (simp_all; done)
   ·refine qm ?_ (hg := wi hg10)
    refine qg ?_ (hg := wi hg10)
    refine qu hg10 ?_
    refine EvO.nil (leafT ?_ ?_)
    ·try dsimp only [setW, List.foldl, nth, u2, u1]
     all_goals (first | rfl | simp)
    ·try dsimp only [Fr.putO, Fr.put, Fr.clean, Fr.ev, Fr.get, nth, Go.V.look, u1, u2, v1, v2, v3, v4, v5, v6, v7, List.length, u3, u4, Nat.reduceSub, Nat.reduceAdd, List.map]
     all_goals (simp_all; omega)
  try dsimp only [setW, List.foldl, nth, u2, u1]
  try dsimp only [Fr.putO, Fr.put, Fr.clean, Fr.ev, Fr.get, nth, Go.V.look, u1, u2, v1, v2, v3, v4, v5, v6, v7, List.length, u3, u4, Nat.reduceSub, Nat.reduceAdd, List.map]
  try refine qy ?_
  by_cases ha : l.length ≤ at_
  ·have hT : (decide ((at_ : Int) ≥ (l.length : Nat)) || decide (((241 - (f + 1) : Nat) : Int) > 240)) = true := by
    rw [Bool.or_eq_true]; exact .inl (by rw [decide_eq_true_eq]; omega)
   rw [hT] at htmp
   have hn : oneS l (f + 1) at_ g = none := by unfold oneS; rw [List.getElem?_eq_none ha]
   rw [hn]
   try refine qy ?_
   repeat refine qq ?_
   refine EvC.cond (v := true) (by assumption) (fun _ => ?_) (fun h => by cases h)
   try refine qy ?_
   repeat refine qq ?_
   try generalize hK : SeqQ _ _ _ _ = K
   refine EvC.reg ?_
   refine qm ?_
   refine EvO.nil ?_
   try subst hK
   try refine qy ?_
   refine EvC.ret ⟨fun i h => (by cases h), _, _, _, rfl, leaveD_rw (rfl), ?_⟩
   exact ⟨rfl, _, _, hH0.leaveRw1 hS2 hH, hg, fun q hq => by cases hq⟩
  ·have hT : (decide ((at_ : Int) ≥ (l.length : Nat)) || decide (((241 - (f + 1) : Nat) : Int) > 240)) = false := by
    rw [Bool.or_eq_false_iff]; exact ⟨by rw [decide_eq_false_iff_not]; omega, by rw [decide_eq_false_iff_not]; omega⟩
   rw [hT] at htmp
   obtain ⟨n, hn⟩ : ∃ n, l[at_]? = some n := ⟨l[at_]'(by omega), List.getElem?_eq_getElem _⟩
   have hno := hi n (List.mem_of_getElem? hn)
   have hr1 := nod_get hn
   have hrf := nod_refs hno
   have hone : oneS l (f + 1) at_ g = if (shapeN n (g : Nat)).2 = true then kidsS (oneS l f) (shapeN n (g : Nat)).1.toNat (at_ + 1) (if n.op = 6 then g + 1 else g) else none := by
    rw [oneS, hn]
   rw [hone]
   clear hone
   try refine qy ?_
   repeat refine qq ?_
   refine EvC.cond (v := false) (by assumption) (fun h => by cases h) (fun _ => ?_)
   try refine qy ?_
   refine EvC.skip ?_
   try refine qy ?_
   repeat refine qq ?_
   try generalize hK : SeqQ _ _ _ _ = K
   refine EvC.reg ?_
   refine qm ?_
   refine qg ?_
   refine qp (o := 0) ?_
   refine ql hH at0 ?_
   refine qm ?_
   refine qg ?_
   refine qp (o := 1) ?_
   refine ql hH at0 ?_
   refine qr fun p30 hp30 => ?_
   refine EvO.rloadS rfl (ev rfl) (by assumption) rfl (put_T rfl _) ?_
   refine qa hH fun k5 st hk5 hH => ?_
   try dsimp only [u2, u1, u3, u4, setMany, u5, u6, D.cells, Nat.reduceAdd, walkC, nodC] at hH
   refine EvO.hstoreA hH rfl (ev rfl) (ev rfl) (by rfl) (by exact rfl) (by exact at0) (by exact rfl) (by exact .inr (by assumption)) (fun st hH => ?_)
   try dsimp only [u2, u1, u3, u4, setMany, u5, u6, D.cells, Nat.reduceAdd, walkC, nodC] at hH
   refine EvO.nil ?_
   try subst hK
   try refine qy ?_
   repeat refine qq ?_
   try generalize hK : SeqQ _ _ _ _ = K
   refine EvC.reg ?_
   refine EvO.hloadS (m := 7) hH rfl (ev rfl) (by exact at0) (by dsimp only [List.drop_succ_cons, List.drop_zero, List.take_succ_cons, List.take_zero, walkC, nodC] <;> rfl) rfl rfl (put_T rfl _) ?_
   refine qm ?_
   refine qg ?_
   refine qp (o := 2) ?_
   refine ql hH at1 ?_
   refine EvO.hcall rfl rfl (shaped2_ev hno (by omega)) (put_T rfl _) ?_
   refine qm ?_
   refine qg ?_
   refine qg ?_
   refine qm ?_
   refine qm ?_
   refine EvO.nil ?_
   try subst hK
   try refine qy ?_
   repeat refine qq ?_
   try generalize hK : SeqQ _ _ _ _ = K
   refine EvC.reg ?_
   refine qm ?_
   refine qg ?_
   refine EvO.nil ?_
   try subst hK
   try refine qy ?_
   cases hsh : (shapeN n (g : Nat)).2 with
   | false =>
    rw [if_neg (by simp)]
    try refine qy ?_
    repeat refine qq ?_
    refine EvC.cond (v := true) (by rfl) (fun _ => ?_) (fun h => by cases h)
    try refine qy ?_
    repeat refine qq ?_
    try generalize hK : SeqQ _ _ _ _ = K
    refine EvC.reg ?_
    refine qm ?_
    refine EvO.nil ?_
    try subst hK
    try refine qy ?_
    refine EvC.ret ⟨fun i h => (by cases h), _, _, _, rfl, leaveD_rw (rfl), ?_⟩
    exact ⟨rfl, _, _, hH0.leaveRw1 hS2 (hH.drop 1), hg, fun q hq => by cases hq⟩
   | true =>
    rw [if_pos rfl]
    obtain ⟨⟨hk1, _⟩, hk2, hk3⟩ := shape_ok hsh
    have hk4 := hno.2.2
    obtain ⟨kd, hkd⟩ : ∃ kd : Nat, (shapeN n (g : Nat)).1 = (kd : Int) := Int.eq_ofNat_of_zero_le hk2
    rw [hkd, Int.toNat_natCast]
    rw [hkd, Int.toNat_natCast] at hk1
    try refine qy ?_
    repeat refine qq ?_
    refine EvC.cond (v := false) (by rfl) (fun h => by cases h) (fun _ => ?_)
    try refine qy ?_
    refine EvC.skip ?_
    try refine qy ?_
    repeat refine qq ?_
    try generalize hK : SeqQ _ _ _ _ = K
    refine EvC.reg ?_
    refine qm ?_
    refine qg ?_
    refine qp (o := 1) ?_
    refine ql hH at1 ?_
    refine qA ?_
    refine qg ?_
    refine qp (o := 1) ?_
    refine qT hH at1 fun st hH => ?_
    try dsimp only [u2, u1, u3, u4, setMany, u5, u6, D.cells, Nat.reduceAdd, walkC, nodC] at hH
    refine EvO.nil ?_
    try subst hK
    try refine qy ?_
    repeat refine qq ?_
    try generalize hK : SeqQ _ _ _ _ = K
    refine EvC.reg ?_
    refine qp (o := 0) ?_
    refine ql hH at0 ?_
    refine qg ?_
    refine EvO.nil ?_
    try subst hK
    try refine qy ?_
    repeat refine qq ?_
    refine EvC.merge (fun fr st => ∃ (g2 : Nat) (tmp : List (Nat × D)), fr = ⟨8, [.ptr k 0 0, .int .i64 ((241 - (f + 1) : Nat) : Int), ixF_Qd fr 2, ixF_Qd fr 3, .bool false, .ptr k5 0 0, .int .i64 (kd : Nat), .bool true], tmp⟩ ∧ Has N S2 st (.box k (.mem 0 false [d, .int .i64 ((at_ + 1 : Nat) : Int), .int .i64 (g2 : Nat)]) :: .box k5 (.mem 0 false (nodC n)) :: H) ∧ (g2 = if n.op = 6 then g + 1 else g) ∧ (g2 ≤ 4)) ?_ ?_
    ·try refine qy ?_
     repeat refine qq ?_
     refine qc (fun q6 => ?_) (fun q6 => ?_) <;> try simp only [cs] at q6
     ·have := hk3 q6
      try refine qy ?_
      repeat refine qq ?_
      try generalize hK : SeqQ _ _ _ _ = K
      refine EvC.reg ?_
      refine qm ?_
      refine qg ?_
      refine qp (o := 2) ?_
      refine ql hH at1 ?_
      refine qA ?_
      refine qg ?_
      refine qp (o := 2) ?_
      refine qT hH at1 fun st hH => ?_
      try dsimp only [u2, u1, u3, u4, setMany, u5, u6, D.cells, Nat.reduceAdd, walkC, nodC] at hH
      refine EvO.nil ?_
      try subst hK
      try refine qy ?_
      exact ⟨g + 1, _, rfl, (by have := hH.front at1; exact this), by rw [if_pos q6], by omega⟩
     ·refine EvC.skip ?_
      try refine qy ?_
      exact ⟨g, _, rfl, (by have := hH.front at1; exact this), by rw [if_neg q6], hg⟩
    ·rintro fr st ⟨g2, tmp, hfr, hH, hg2, hg3⟩
     rw [hfr]
     clear hfr
     try generalize ixF_Qd fr = ee
     clear fr
     try refine qy ?_
     rw [← hg2]
     try refine qy ?_
     repeat refine qq ?_
     refine EvC.block ?_
     refine EvC.loop (fun mm fr st => ∃ (kk a2 g4 : Nat), fr.clean = ⟨8, [.ptr k 0 0, .int .i64 ((241 - (f + 1) : Nat) : Int), ixF_Qd fr 2, ixF_Qd fr 3, .bool false, .ptr k5 0 0, .int .i64 (kk : Nat), .bool true], []⟩ ∧ Has N S2 st (.box k (.mem 0 false [d, .int .i64 (a2 : Nat), .int .i64 (g4 : Nat)]) :: .box k5 (.mem 0 false (nodC n)) :: H) ∧ (kidsS (oneS l f) kk a2 g4 = kidsS (oneS l f) kd (at_ + 1) g2) ∧ (g4 ≤ 4) ∧ (kk = mm) ∧ (kk ≤ 9223372036854775807)) (kd) ?_ ?_
     ·exact ⟨kd, at_ + 1, g2, rfl, hH, rfl, hg3, rfl, by omega⟩
     rintro mm fr st ⟨kk, a2, g4, hfr, hH, hX, hg5, hmk, hkk⟩
     rw [hfr]
     clear hfr
     try generalize ixF_Qd fr = ee
     clear fr
     try refine qy ?_
     repeat refine qq ?_
     try generalize hK : SeqQ _ _ _ _ = K
     refine EvC.reg ?_
     refine qm ?_
     refine qg ?_
     refine EvO.nil ?_
     try subst hK
     try refine qy ?_
     cases kk with
     | zero =>
      try refine qy ?_
      repeat refine qq ?_
      refine EvC.cond (v := false) (by dsimp only [Fr.ev, Fr.get, nth, Go.V.look]; rfl) (fun h => by cases h) (fun _ => ?_)
      try refine qy ?_
      refine EvC.exit ?_
      try refine qy ?_
      repeat refine qq ?_
      try generalize hK : SeqQ _ _ _ _ = K
      refine EvC.reg ?_
      refine qm ?_
      refine EvO.nil ?_
      try subst hK
      try refine qy ?_
      refine EvC.ret ⟨fun i h => (by cases h), _, _, _, rfl, leaveD_rw (rfl), ?_⟩
      exact ⟨by rw [← hX]; rfl, _, _, hH0.leaveRw1 hS2 (hH.erase 1), hg5, fun q hq => by rw [← hX] at hq; simp only [kidsS, Option.some.injEq] at hq; subst hq; exact ⟨rfl, rfl⟩⟩
     | succ kk =>
      rw [kidsS] at hX
      try refine qy ?_
      repeat refine qq ?_
      refine EvC.cond (v := true) (by dsimp only [Fr.ev, Fr.get, nth, Go.V.look]; simp) (fun _ => ?_) (fun h => by cases h)
      try refine qy ?_
      refine EvC.skip ?_
      try refine qy ?_
      repeat refine qq ?_
      refine EvC.block ?_
      try refine qy ?_
      repeat refine qq ?_
      try generalize hK : SeqQ _ _ _ _ = K
      refine EvC.reg ?_
      refine qm ?_
      refine qm ?_
      refine EvO.addZ (z := ((241 - f : Nat) : Int)) rfl (ev rfl) (ev rfl) (by (try simp only [List.length_reverse, List.length_cons, List.length_nil, List.length_append, List.length_map, List.length_set]); rw [wrap_i64 (by omega) (by omega)] <;> omega) (put_T rfl _) ?_
      obtain ⟨_, st, hev, rfl, a', g', hH, hg6, hq⟩ := ih (at_ := a2) (g := g4) (by omega) hg5 hH
      refine EvO.hcall rfl rfl hev (put_T rfl _) ?_
      refine qg ?_
      refine EvO.nil ?_
      try subst hK
      try refine qy ?_
      cases ho : oneS l f a2 g4 with
      | none =>
       rw [ho] at hX
       try refine qy ?_
       repeat refine qq ?_
       refine EvC.cond (v := true) (by rfl) (fun _ => ?_) (fun h => by cases h)
       try refine qy ?_
       repeat refine qq ?_
       try generalize hK : SeqQ _ _ _ _ = K
       refine EvC.reg ?_
       refine qm ?_
       refine EvO.nil ?_
       try subst hK
       try refine qy ?_
       refine EvC.ret ⟨fun i h => (by cases h), _, _, _, rfl, leaveD_rw (rfl), ?_⟩
       exact ⟨by rw [← hX]; rfl, _, _, hH0.leaveRw1 hS2 (hH.erase 1), hg6, fun q hq => by rw [← hX] at hq; cases hq⟩
      | some q =>
       rw [ho] at hX
       obtain ⟨rfl, rfl⟩ := hq q ho
       try refine qy ?_
       repeat refine qq ?_
       refine EvC.cond (v := false) (by rfl) (fun h => by cases h) (fun _ => ?_)
       try refine qy ?_
       refine EvC.skip ?_
       try refine qy ?_
       repeat refine qq ?_
       try generalize hK : SeqQ _ _ _ _ = K
       refine EvC.reg ?_
       refine qm ?_
       refine EvO.subZ (z := ((kk : Nat) : Int)) rfl (ev rfl) (ev rfl) (by (try simp only [List.length_reverse, List.length_cons, List.length_nil, List.length_append, List.length_map, List.length_set]); rw [wrap_i64 (by omega) (by omega)] <;> omega) (put_T rfl _) ?_
       refine qm ?_
       refine EvO.nil ?_
       try subst hK
       try refine qy ?_
       exact ⟨mm - 1, by omega, ⟨kk, q.1, q.2, rfl, hH, hX, hg6, by omega, by omega⟩⟩
theorem rightL_ev {s0 : St} {x : Nl} (hx : x.ok) : Ev pv 21 [x.d] s0 (.bool (rightN x.l)) s0 := by
 refine Ev.mk1 rfl fi21 rfl rfl rfl ?_
 dsimp only [List.cons_append, List.nil_append, List.length, Nat.reduceSub, Nat.reduceAdd, List.replicate_succ, List.replicate_zero]
 have hSb : (enterSt .ro s0).bs = s0.bs := rfl
 have hF : (enterSt .ro s0).flr ≤ s0.bs.length := Nat.le_refl _
 have hH : Has s0.bs.length (enterSt .ro s0) (enterSt .ro s0) [] := Has.start (Nat.le_refl _) (Nat.le_refl _)
 generalize enterSt .ro s0 = S at *
 have hc := hx.c.arg s0.bs.length S
 have hl := hx.nl
 have hcd := hx.c
 try refine qy ?_
 repeat refine qq ?_
 try generalize hK : SeqQ _ _ _ _ = K
 refine EvC.reg ?_
 refine qm ?_
 refine EvO.nil ?_
 try subst hK
 try refine qy ?_
 repeat refine qq ?_
 refine EvC.cutT 11 (.bool (decide (((x.l.length : Nat) : Int) < 1) || decide (((x.l.length : Nat) : Int) > 480))) [] ?_ (fun ff tmp htmp => ?_)
 ·refine qm ?_
  refine qn ?_
  try simp only [List.length_map, List.length_append, List.length_cons, List.length_nil, List.length_set, List.length_replicate, List.length_reverse]
  refine qg ?_
  refine qm ?_
  refine EvO.two 7 rfl (fun hg3 => ?_) (fun hg3 => ?_)
  ·refine qs ?_ (hg := wn hg3)
   refine qs ?_ (hg := wn hg3)
   refine qs ?_ (hg := wn hg3)
   refine qt hg3 ?_
   refine EvO.nil (leafT ?_ ?_)
   ·try dsimp only [setW, List.foldl, nth, u2, u1]
    all_goals (first | rfl | simp)
   ·try dsimp only [Fr.putO, Fr.put, Fr.clean, Fr.ev, Fr.get, nth, Go.V.look, u1, u2, v1, v2, v3, v4, v5, v6, v7, List.length, u3, u4, Nat.reduceSub, Nat.reduceAdd, List.map]
    all_goals (simp [hg3]; done)
  ·refine qm ?_ (hg := wi hg3)
   refine qn ?_ (hg := wi hg3)
   try simp only [List.length_map, List.length_append, List.length_cons, List.length_nil, List.length_set, List.length_replicate, List.length_reverse]
   refine qg ?_ (hg := wi hg3)
   refine qu hg3 ?_
   refine EvO.nil (leafT ?_ ?_)
   ·try dsimp only [setW, List.foldl, nth, u2, u1]
    all_goals (first | rfl | simp)
   ·try dsimp only [Fr.putO, Fr.put, Fr.clean, Fr.ev, Fr.get, nth, Go.V.look, u1, u2, v1, v2, v3, v4, v5, v6, v7, List.length, u3, u4, Nat.reduceSub, Nat.reduceAdd, List.map]
    all_goals (simp [hg3]; done)
 try dsimp only [setW, List.foldl, nth, u2, u1]
 try dsimp only [Fr.putO, Fr.put, Fr.clean, Fr.ev, Fr.get, nth, Go.V.look, u1, u2, v1, v2, v3, v4, v5, v6, v7, List.length, u3, u4, Nat.reduceSub, Nat.reduceAdd, List.map]
 try refine qy ?_
 by_cases hlen : 1 ≤ x.l.length ∧ x.l.length ≤ 480
 ·have hT : (decide (((x.l.length : Nat) : Int) < 1) || decide (((x.l.length : Nat) : Int) > 480)) = false := by
   rw [Bool.or_eq_false_iff]; exact ⟨by rw [decide_eq_false_iff_not]; omega, by rw [decide_eq_false_iff_not]; omega⟩
  rw [hT] at htmp
  have hR : rightN x.l = (match oneS x.l 241 0 0 with | some r => decide (r.1 = x.l.length) | none => false) := by
   unfold rightN; rw [decide_eq_true hlen.1, decide_eq_true hlen.2]; rfl
  rw [hR]
  clear hR
  try refine qy ?_
  repeat refine qq ?_
  refine EvC.cond (v := false) (by assumption) (fun h => by cases h) (fun _ => ?_)
  try refine qy ?_
  refine EvC.skip ?_
  try refine qy ?_
  repeat refine qq ?_
  try generalize hK : SeqQ _ _ _ _ = K
  refine EvC.reg ?_
  refine qm ?_
  refine EvO.ones (qs := [(0, _)]) rfl rfl rfl rfl ⟨rfl, (ev rfl), (by exact (SlD.cells (by assumption)).1), trivial⟩ (by intro q hq; simp only [List.mem_cons, List.not_mem_nil, or_false] at hq; rcases hq with rfl <;> exact ⟨rfl, by exact Nat.le_of_ble_eq_true rfl⟩) (by show List.foldl _ [_, _, _] _ = _; dsimp only [List.foldl_cons, List.foldl_nil, List.set_cons_zero, List.set_cons_succ] <;> rfl) (put_T rfl _) ?_
  refine qb hH fun k14 st hk14 hH => ?_
  try dsimp only [u2, u1, u3, u4, setMany, u5, u6, D.cells, Nat.reduceAdd, walkC, nodC] at hH
  refine qm ?_
  refine EvO.nil ?_
  try subst hK
  try refine qy ?_
  have hH : Has s0.bs.length S st (.box k14 (.mem 0 false (walkC x.d 0 0)) :: []) := hH
  cases hg2 : (oneS x.l 241 0 0).isSome with
  | true =>
   obtain ⟨q, hq⟩ := Option.isSome_iff_exists.1 hg2
   try refine qy ?_
   repeat refine qq ?_
   try generalize hK : SeqQ _ _ _ _ = K
   refine EvC.reg ?_
   refine qm ?_
   obtain ⟨_, st, hev, rfl, a', g', hH, hg6, hqq⟩ := one_ev hl hx.i hx.c 241 (by omega) (by omega) hH
   refine EvO.hcall rfl rfl hev (put_T rfl _) ?_
   refine qm ?_
   refine qm ?_ (hg := wi hg2)
   refine qg ?_ (hg := wi hg2)
   refine qp (o := 1) ?_ (hg := wi hg2)
   refine ql hH at0 ?_ (hg := wi hg2)
   refine qm ?_ (hg := wi hg2)
   refine qn ?_ (hg := wi hg2)
   try simp only [List.length_map, List.length_append, List.length_cons, List.length_nil, List.length_set, List.length_replicate, List.length_reverse]
   refine qg ?_ (hg := wi hg2)
   refine qt hg2 ?_
   refine qm ?_
   refine EvO.nil ?_
   try subst hK
   try refine qy ?_
   obtain ⟨rfl, rfl⟩ := hqq q hq
   rw [hq]
   have he : decide (q.1 = x.l.length) = (((q.1 : Nat) : Int) == ((x.l.length : Nat) : Int)) := by
    rw [Bool.eq_iff_iff]; simp only [decide_eq_true_eq, beq_iff_eq]; omega
   simp only [he]
   refine EvC.ret ⟨fun i h => (by cases h), _, rfl, leave_ro (by simp) hSb hH (rfl)⟩
  | false =>
   have hq : oneS x.l 241 0 0 = none := by
    cases hq : oneS x.l 241 0 0 with
    | none => rfl
    | some q => rw [hq] at hg2; cases hg2
   try refine qy ?_
   repeat refine qq ?_
   try generalize hK : SeqQ _ _ _ _ = K
   refine EvC.reg ?_
   refine qm ?_
   obtain ⟨_, st, hev, rfl, a', g', hH, hg6, hqq⟩ := one_ev hl hx.i hx.c 241 (by omega) (by omega) hH
   refine EvO.hcall rfl rfl hev (put_T rfl _) ?_
   refine qm ?_
   refine qs ?_ (hg := wn hg2)
   refine qs ?_ (hg := wn hg2)
   refine qs ?_ (hg := wn hg2)
   refine qs ?_ (hg := wn hg2)
   refine qs ?_ (hg := wn hg2)
   refine qs ?_ (hg := wn hg2)
   refine qs ?_ (hg := wn hg2)
   refine qu hg2 ?_
   refine qm ?_
   refine EvO.nil ?_
   try subst hK
   try refine qy ?_
   rw [hq]
   refine EvC.ret ⟨fun i h => (by cases h), _, rfl, leave_ro (by simp) hSb hH (rfl)⟩
 ·have hT : (decide (((x.l.length : Nat) : Int) < 1) || decide (((x.l.length : Nat) : Int) > 480)) = true := by
   rw [Bool.or_eq_true, decide_eq_true_eq, decide_eq_true_eq]; omega
  rw [hT] at htmp
  have hR : rightN x.l = false := by
   unfold rightN
   by_cases h1 : 1 ≤ x.l.length
   ·rw [decide_eq_true h1, decide_eq_false (fun h2 => hlen ⟨h1, h2⟩)]; rfl
   ·rw [decide_eq_false h1]; rfl
  rw [hR]
  try refine qy ?_
  repeat refine qq ?_
  refine EvC.cond (v := true) (by assumption) (fun _ => ?_) (fun h => by cases h)
  try refine qy ?_
  repeat refine qq ?_
  try generalize hK : SeqQ _ _ _ _ = K
  refine EvC.reg ?_
  refine qm ?_
  refine EvO.nil ?_
  try subst hK
  try refine qy ?_
  refine EvC.ret ⟨fun i h => (by cases h), _, rfl, leave_ro (by simp) hSb hH (rfl)⟩
end Go.Proofs.Ytbdilgkfnacahaa
