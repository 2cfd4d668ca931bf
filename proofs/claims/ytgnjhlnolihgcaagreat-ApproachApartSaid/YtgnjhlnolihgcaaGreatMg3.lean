import Derived.Test.YtgnjhlnolihgcaaGreatMathZ
import Derived.Test.YtgnjhlnolihgcaaGreatMem
import Derived.Lib.SlTrimSet
import Derived.Lib.Repeat
namespace Go.Proofs.YtgnjhlnolihgcaaGreat
def badF (n1:Bool) (l1:List Nat) (n2:Bool) (l2:List Nat):Bool:=
 badL n1 l1 || badL n2 l2 || n2 || decide (l2.length=0) || !decide (Nat.gcd (val l1) (val l2)=1)
def chkF (n1:Bool) (l1:List Nat) (n2:Bool) (l2:List Nat):Int:=if badF n1 l1 n2 l2 then 8 else 0
def sgZ (x y:Int):Int:=if y < 0 then -(Int.gcd x y:Int) else (Int.gcd x y:Int)
def redZ (x y:Int):(Bool × List Nat) × (Bool × List Nat):=(wOf (x.fdiv (sgZ x y)),wOf (y.fdiv (sgZ x y)))
def zF:(Bool × List Nat) × (Bool × List Nat):=((false,[]),(false,[]))
def fitB (z:Int):Bool:=decide ((limbs z.natAbs).length≤4096)
theorem q0s {z:Int} : fitB z=true ↔ fitZ z:=by unfold fitB fitZ; exact decide_eq_true_iff
def makeS (n1:Bool) (l1:List Nat) (n2:Bool) (l2:List Nat):((Bool × List Nat) × (Bool × List Nat)) × Int:=
 if badL n1 l1 || badL n2 l2 then (zF,8) else if l2.length=0 then (zF,18) else (redZ (zv n1 l1) (zv n2 l2),0)
def ofS (x y:Int):((Bool × List Nat) × (Bool × List Nat)) × Int:=if y=0 then (zF,18) else (redZ x y,0)
structure VF (n1:Bool) (l1:List Nat) (n2:Bool) (l2:List Nat) (x y:Int):Prop where
 num:VZ n1 l1 x
 den:VZ n2 l2 y
 pos:0 < y
 one:Int.gcd x y=1
section
variable {n1 n2:Bool} {l1 l2:List Nat} {x y:Int}
theorem VF.good (h:VF n1 l1 n2 l2 x y):badF n1 l1 n2 l2=false:=by
 have hn:n2=false:=(by rw [h.den.neg_eq]; exact decide_eq_false (by have:=h.pos; omega));have hl:l2.length≠0:=fun e=>by have:=h.den.zero.1 e; have:=h.pos; omega
 have hg:Nat.gcd (val l1) (val l2)=1:=(by rw [h.num.val_eq,h.den.val_eq]; exact h.one);unfold badF;simp only [Bool.or_eq_false_iff,decide_eq_false_iff_not,Bool.not_eq_false',decide_eq_true_eq];exact ⟨⟨⟨⟨h.num.good,h.den.good⟩,hn⟩,hl⟩,hg⟩
theorem vf_of (h1:Lim l1) (h2:Lim l2) (h:badF n1 l1 n2 l2=false):VF n1 l1 n2 l2 (zv n1 l1) (zv n2 l2):=by
 unfold badF at h;simp only [Bool.or_eq_false_iff,decide_eq_false_iff_not,Bool.not_eq_false',decide_eq_true_eq] at h;obtain ⟨⟨⟨⟨a,b⟩,c⟩,d⟩,e⟩:=h;have v1:=vz_of h1 a;have v2:=vz_of h2 b;refine ⟨v1,v2,?_,?_⟩
 ·have h0:=mt v2.zero.2 d;have:=of_decide_eq_false (v2.neg_eq.symm.trans c);omega
 ·rw [← e,v1.val_eq,v2.val_eq]; rfl
theorem VF.chk (h:VF n1 l1 n2 l2 x y):chkF n1 l1 n2 l2=0:=by unfold chkF; rw [h.good]; rfl
theorem sg_abs (x y:Int):(sgZ x y).natAbs=Int.gcd x y:=by unfold sgZ; split <;> simp
theorem sg_ne (hy:y≠0):sgZ x y≠0:=fun e=>by
 have:=sg_abs x y;rw [e] at this;have h0:=Int.gcd_eq_zero_iff.1 this.symm;exact hy h0.2
theorem fit_sg (h1:fitZ x) (h2:fitZ y):fitZ (sgZ x y):=by
 have h:=fit_gcd h1 h2;unfold fitZ at *;rw [sg_abs];simpa using h
theorem sg_dvd_left (x y:Int):sgZ x y ∣ x:=by
 unfold sgZ; split
 ·exact (Int.neg_dvd).2 (Int.gcd_dvd_left ..)
 ·exact Int.gcd_dvd_left ..
theorem sg_dvd_right (x y:Int):sgZ x y ∣ y:=by
 unfold sgZ; split
 ·exact (Int.neg_dvd).2 (Int.gcd_dvd_right ..)
 ·exact Int.gcd_dvd_right ..
end
theorem make_good {n1 n2:Bool} {l1 l2:List Nat} {x y:Int} (h1:VZ n1 l1 x) (h2:VZ n2 l2 y):makeS n1 l1 n2 l2=ofS x y:=by
 unfold makeS ofS;rw [h1.good,h2.good,if_neg (by simp),h1.zv_eq,h2.zv_eq];by_cases hy:y=0
 ·rw [if_pos hy,if_pos (h2.zero.2 hy)]
 ·rw [if_neg hy,if_neg (mt h2.zero.1 hy)]
end Go.Proofs.YtgnjhlnolihgcaaGreat
namespace Go.Proofs.YtgnjhlnolihgcaaGreat
def outF (fits:Bool) (x y:Int):((Bool × List Nat) × (Bool × List Nat)) × Int:=if fits then (redZ x y,0) else (zF,16)
def addV (x1 y1 x2 y2:Int):((Bool × List Nat) × (Bool × List Nat)) × Int:=outF (fitB (x1 * y2) && fitB (x2 * y1) && fitB (x1 * y2+x2 * y1) && fitB (y1 * y2)) (x1 * y2+x2 * y1) (y1 * y2)
def subV (x1 y1 x2 y2:Int):((Bool × List Nat) × (Bool × List Nat)) × Int:=outF (fitB (x1 * y2) && fitB (x2 * y1) && fitB (x1 * y2 - x2 * y1) && fitB (y1 * y2)) (x1 * y2 - x2 * y1) (y1 * y2)
def mulV (x1 y1 x2 y2:Int):((Bool × List Nat) × (Bool × List Nat)) × Int:=outF (fitB (x1 * x2) && fitB (y1 * y2)) (x1 * x2) (y1 * y2)
section
variable (n1:Bool) (l1:List Nat) (n2:Bool) (l2:List Nat) (n3:Bool) (l3:List Nat) (n4:Bool) (l4:List Nat)
def q0y (V:Int→Int→Int→Int→((Bool × List Nat) × (Bool × List Nat)) × Int):((Bool × List Nat) × (Bool × List Nat)) × Int:=
 if badF n1 l1 n2 l2 || badF n3 l3 n4 l4 then (zF,8) else V (zv n1 l1) (zv n2 l2) (zv n3 l3) (zv n4 l4)
end
section
variable {n1 n2 n3 n4:Bool} {l1 l2 l3 l4:List Nat} {x y x' y':Int}
theorem both_good {V:Int→Int→Int→Int→((Bool × List Nat) × (Bool × List Nat)) × Int} (h:VF n1 l1 n2 l2 x y) (k:VF n3 l3 n4 l4 x' y'):q0y n1 l1 n2 l2 n3 l3 n4 l4 V=V x y x' y':=by
 unfold q0y;rw [h.good,k.good,if_neg (by simp),h.num.zv_eq,h.den.zv_eq,k.num.zv_eq,k.den.zv_eq]
theorem red_parts (hy:y≠0):∃ a b:Int,x=sgZ x y * a∧y=sgZ x y * b∧redZ x y=(wOf a,wOf b)∧0 < b∧Int.gcd a b=1:=by
 have hs:=sg_ne (x:=x) hy;obtain ⟨a,ha⟩:=sg_dvd_left x y;obtain ⟨b,hb⟩:=sg_dvd_right x y;refine ⟨a,b,ha,hb,?_,?_,?_⟩
 ·unfold redZ;generalize sgZ x y=g at *;rw [ha,hb,Int.mul_fdiv_cancel_left a hs,Int.mul_fdiv_cancel_left b hs]
 ·have hsg:(y < 0→sgZ x y < 0)∧(0 < y→0 < sgZ x y):=by
   have h0:=sg_abs x y;unfold sgZ at *;constructor <;> intro h
   ·rw [if_pos h] at *; omega
   ·rw [if_neg (by omega)] at *; omega
  generalize sgZ x y=g at *;rcases Int.lt_or_gt_of_ne hy with h | h
  ·have hg:=hsg.1 h;rcases (by omega:0 < b∨b≤0) with hb0 | hb0
   ·exact hb0
   ·have:=Int.mul_nonneg_of_nonpos_of_nonpos (Int.le_of_lt hg) hb0;omega
  ·have hg:=hsg.2 h;rcases (by omega:0 < b∨b≤0) with hb0 | hb0
   ·exact hb0
   ·have:=Int.mul_nonpos_of_nonneg_of_nonpos (Int.le_of_lt hg) hb0;omega
 ·have h1:=sg_abs x y
  have h2:Int.gcd x y=(sgZ x y).natAbs * Int.gcd a b:=by
   generalize sgZ x y=g at *;rw [ha,hb];exact Int.gcd_mul_left ..
  rw [← h1] at h2;have h3:0 < (sgZ x y).natAbs:=(by omega);have h4:(sgZ x y).natAbs * 1=(sgZ x y).natAbs * Int.gcd a b:=(by omega);exact (Nat.eq_of_mul_eq_mul_left h3 h4).symm
theorem frac_uniq (hy:0 < y) (hy':0 < y') (h1:Int.gcd x y=1) (h2:Int.gcd x' y'=1) (h:x * y'=x' * y):x=x'∧y=y':=by
 have e:x.natAbs * y'.natAbs=x'.natAbs * y.natAbs:=(by rw [← Int.natAbs_mul,← Int.natAbs_mul,h]);have c1:Nat.Coprime y.natAbs x.natAbs:=(by rw [Nat.coprime_comm]; exact h1);have c2:Nat.Coprime y'.natAbs x'.natAbs:=(by rw [Nat.coprime_comm]; exact h2);have d1:y.natAbs ∣ y'.natAbs:=c1.dvd_of_dvd_mul_left (e ▸ Nat.dvd_mul_left ..);have d2:y'.natAbs ∣ y.natAbs:=c2.dvd_of_dvd_mul_left (e ▸ Nat.dvd_mul_left ..);have hyy:y=y':=(by have:=Nat.dvd_antisymm d1 d2; omega);subst hyy;exact ⟨Int.eq_of_mul_eq_mul_right (by omega) h,rfl⟩
end
end Go.Proofs.YtgnjhlnolihgcaaGreat
namespace Go.Proofs.YtgnjhlnolihgcaaGreat
open Go.RowKit
def Cf (w:World) (g:Nat) (n1:Bool) (A1:Option Addr) (m1 c1:Nat) (n2:Bool) (A2:Option Addr) (m2 c2:Nat):Prop:=
 w.cell? ⟨g,0,none⟩=some (.bool n1)∧w.cell? ⟨g,1,none⟩=some (.slice A1 m1 c1)∧w.cell? ⟨g,2,none⟩=some (.bool n2)∧w.cell? ⟨g,3,none⟩=some (.slice A2 m2 c2)
section
variable {w w':World} {g:Nat} {n1 n2:Bool} {A1 A2:Option Addr} {m1 c1 m2 c2:Nat}
theorem Cf.keep (h:Cf w g n1 A1 m1 c1 n2 A2 m2 c2) (hb:Below w.heap.size w w'):Cf w' g n1 A1 m1 c1 n2 A2 m2 c2:=keep4 hb h
theorem Cf.drew (h:Cf w g n1 A1 m1 c1 n2 A2 m2 c2):Cf w.drew g n1 A1 m1 c1 n2 A2 m2 c2:=h
theorem Cf.fresh (hg:g=w.heap.size) (n1:Bool) (A1:Option Addr) (m1 c1:Nat) (n2:Bool) (A2:Option Addr) (m2 c2:Nat) (t:TypeId) :
  Cf (w.alloc (.cells #[.bool n1,.slice A1 m1 c1,.bool n2,.slice A2 m2 c2] t)) g n1 A1 m1 c1 n2 A2 m2 c2:=by
 subst hg;exact ⟨by simp,by simp,by simp,by simp⟩
theorem Cf.setW {g':Nat} (h:Cf w g n1 A1 m1 c1 n2 A2 m2 c2) (hne:g≠g') (x y:Value):Cf ((w.setCell ⟨g',0,none⟩ x).setCell ⟨g',1,none⟩ y) g n1 A1 m1 c1 n2 A2 m2 c2:=
 ⟨(q0k hne x y).trans h.1,(q0k hne x y).trans h.2.1,(q0k hne x y).trans h.2.2.1,(q0k hne x y).trans h.2.2.2⟩
def Ff (w:World) (g:Nat):Prop:=w.frozen? ⟨g,0,none⟩=false∧w.frozen? ⟨g,1,none⟩=false∧w.frozen? ⟨g,2,none⟩=false∧w.frozen? ⟨g,3,none⟩=false
theorem Ff.keep (f:Ff w g) (h:Cf w g n1 A1 m1 c1 n2 A2 m2 c2) (hb:Below w.heap.size w w'):Ff w' g:=
 ⟨q1f hb h.1 f.1,q1f hb h.2.1 f.2.1,q1f hb h.2.2.1 f.2.2.1,q1f hb h.2.2.2 f.2.2.2⟩
theorem Ff.fresh (hg:g=w.heap.size) (cs:Array Value) (t:TypeId):Ff (w.alloc (.cells cs t)) g:=by
 subst hg;exact ⟨by simp,by simp,by simp,by simp⟩
theorem Ff.drew (f:Ff w g):Ff w.drew g:=f
def C1 (w:World) (g:Nat) (v:Value):Prop:=w.cell? ⟨g,0,none⟩=some v∧w.frozen? ⟨g,0,none⟩=false
theorem C1.keep {v:Value} (h:C1 w g v) (hb:Below w.heap.size w w'):C1 w' g v:=⟨q0b hb h.1,q1f hb h.1 h.2⟩
theorem C1.fresh (hg:g=w.heap.size) (v:Value) (t:TypeId):C1 (w.alloc (.cells #[v] t)) g v:=by
 subst hg;exact ⟨by simp,by simp⟩
end
theorem Ff.setW {w:World} {g g':Nat} (f:Ff w g) (x y:Value):Ff ((w.setCell ⟨g',0,none⟩ x).setCell ⟨g',1,none⟩ y) g:=by
 obtain ⟨h0,h1,h2,h3⟩:=f;exact ⟨by rw [World.frozen?_setCell,World.frozen?_setCell]; exact h0,by rw [World.frozen?_setCell,World.frozen?_setCell]; exact h1,by rw [World.frozen?_setCell,World.frozen?_setCell]; exact h2,by rw [World.frozen?_setCell,World.frozen?_setCell]; exact h3⟩
theorem C1.setW {w:World} {g g':Nat} {v:Value} (h:C1 w g v) (hne:g≠g') (x y:Value):C1 ((w.setCell ⟨g',0,none⟩ x).setCell ⟨g',1,none⟩ y) g v:=
 ⟨(q0k hne x y).trans h.1,by rw [World.frozen?_setCell,World.frozen?_setCell]; exact h.2⟩
theorem Cw.set1 {w:World} {g g':Nat} {n:Bool} {A:Option Addr} {m c:Nat} (h:Cw w g n A m c) (hne:g≠g') (x:Value):Cw (w.setCell ⟨g',0,none⟩ x) g n A m c:=
 ⟨(World.cell?_setCell_other _ _ _ _ (by intro e; exact hne (congrArg Addr.block e).symm)).trans h.1,(World.cell?_setCell_other _ _ _ _ (by intro e; exact hne (congrArg Addr.block e).symm)).trans h.2⟩
theorem Sl.set1' {w:World} {A:Option Addr} {l:List Nat} {c g:Nat} {k:IntKind} {z:Int} (h:Sl w A l c) (q:w.cell? ⟨g,0,none⟩=some (.int k z)) (hk:k≠.u32) (x:Value):Sl (w.setCell ⟨g,0,none⟩ x) A l c:=by
 refine ⟨fun hl=>?_,h.lim,h.le,h.len⟩;obtain ⟨b,o,e,hc⟩:=h.rd hl;refine ⟨b,o,e,fun i hi=>?_⟩;rw [World.cell?_setCell_other _ _ _ _ (fun he=>?_)]
 ·exact hc i hi
 ·have:=hc i hi;rw [← he,q] at this;injection this with e1
  injection e1 with e2
  exact hk e2
theorem Sl.setF {w:World} {A:Option Addr} {l:List Nat} {c g:Nat} {n1 n2:Bool} {A1 A2:Option Addr} {m1 c1 m2 c2:Nat} (h:Sl w A l c) (q:Cf w g n1 A1 m1 c1 n2 A2 m2 c2) (x y z u:Value) :
  Sl ((((w.setCell ⟨g,0,none⟩ x).setCell ⟨g,1,none⟩ y).setCell ⟨g,2,none⟩ z).setCell ⟨g,3,none⟩ u) A l c:=by
 have h2:∀ (i:Nat) (w:World) (v v':Value),w.cell? ⟨g,i,none⟩=some v→(∀ n,v≠.int .u32 n)→Sl w A l c→Sl (w.setCell ⟨g,i,none⟩ v') A l c:=fun i w v v' hq hv h=>h.set hq hv v';refine h2 3 _ (.slice A2 m2 c2) _ ?_ (by intro n e; cases e) (h2 2 _ (.bool n2) _ ?_ (by intro n e; cases e) (h2 1 _ (.slice A1 m1 c1) _ ?_ (by intro n e; cases e) (h2 0 _ (.bool n1) _ q.1 (by intro n e; cases e) h)))
 ·rw [World.cell?_setCell_other _ _ _ _ (by simp),World.cell?_setCell_other _ _ _ _ (by simp),World.cell?_setCell_other _ _ _ _ (by simp)]; exact q.2.2.2
 ·rw [World.cell?_setCell_other _ _ _ _ (by simp),World.cell?_setCell_other _ _ _ _ (by simp)]; exact q.2.2.1
 ·rw [World.cell?_setCell_other _ _ _ _ (by simp)]; exact q.2.1
theorem q1a {B g:Nat} {a w:World} (h:Below B a w) (hg:B≤g) (x y z u:Value) :
  Below B a ((((w.setCell ⟨g,0,none⟩ x).setCell ⟨g,1,none⟩ y).setCell ⟨g,2,none⟩ z).setCell ⟨g,3,none⟩ u):=
 (((h.setCell (p:=⟨g,0,none⟩) hg x).setCell (p:=⟨g,1,none⟩) hg y).setCell (p:=⟨g,2,none⟩) hg z).setCell (p:=⟨g,3,none⟩) hg u
def FRes1 (r:(Bool × List Nat) × (Bool × List Nat)) (w:World):Ending→World→Prop:=fun e w'=>
 ∃ A c A' c',e=.returned (.agg #[.bool r.1.1,.slice A r.1.2.length c,.bool r.2.1,.slice A' r.2.2.length c'])∧Sl w' A r.1.2 c∧Sl w' A' r.2.2 c'∧Below w.heap.size w w'
def FRes (r:((Bool × List Nat) × (Bool × List Nat)) × Int) (w:World):Ending→World→Prop:=fun e w'=>
 ∃ A c A' c',e=.returned (.tuple #[.agg #[.bool r.1.1.1,.slice A r.1.1.2.length c,.bool r.1.2.1,.slice A' r.1.2.2.length c'],.int .i64 r.2])∧Sl w' A r.1.1.2 c∧Sl w' A' r.1.2.2 c'∧Below w.heap.size w w'
theorem fres1_store {r:(Bool × List Nat) × (Bool × List Nat)} {w w3:World} {g c c':Nat} {A A':Option Addr} {n1 n2:Bool} {A1 A2:Option Addr} {m1 c1 m2 c2:Nat} (hs:Sl w3 A r.1.2 c) (hs':Sl w3 A' r.2.2 c') (q:Cf w3 g n1 A1 m1 c1 n2 A2 m2 c2) (hb:Below w.heap.size w w3) (hg:w.heap.size≤g) (x y z u:Value) :
  FRes1 r w (.returned (.agg #[.bool r.1.1,.slice A r.1.2.length c,.bool r.2.1,.slice A' r.2.2.length c'])) ((((w3.setCell ⟨g,0,none⟩ x).setCell ⟨g,1,none⟩ y).setCell ⟨g,2,none⟩ z).setCell ⟨g,3,none⟩ u):=
 ⟨A,c,A',c',rfl,hs.setF q _ _ _ _,hs'.setF q _ _ _ _,q1a hb hg _ _ _ _⟩
theorem FRes1.alloc {r:(Bool × List Nat) × (Bool × List Nat)} {w w':World} {e:Ending} (h:FRes1 r w e w') (o:Obj):FRes1 r w e (w'.alloc o):=by
 obtain ⟨A,c,A',c',rfl,h1,h2,hb⟩:=h;exact ⟨A,c,A',c',rfl,h1.alloc o,h2.alloc o,q0a hb (blw1 _ _)⟩
section
variable {w w':World} {g m1 c1 m2 c2:Nat} {n1 n2:Bool} {A1 A2:Option Addr} {x:Value} {o1 o2 o3:Obj}
theorem kF (h:Hid (Cf w g n1 A1 m1 c1 n2 A2 m2 c2)) (hb:Below w.heap.size w w'):Hid (Cf w' g n1 A1 m1 c1 n2 A2 m2 c2):=Cf.keep h.out hb
theorem kF1 (h:Hid (Cf w g n1 A1 m1 c1 n2 A2 m2 c2)) (hb:Below (w.alloc o1).heap.size (w.alloc o1) w'):Hid (Cf w' g n1 A1 m1 c1 n2 A2 m2 c2):=Cf.keep (Cf.keep h.out (blw1 _ _)) hb
theorem kF2 (h:Hid (Cf w g n1 A1 m1 c1 n2 A2 m2 c2)) (hb:Below (((w.alloc o1)).alloc o2).heap.size (((w.alloc o1)).alloc o2) w'):Hid (Cf w' g n1 A1 m1 c1 n2 A2 m2 c2):=Cf.keep (Cf.keep (Cf.keep h.out (blw1 _ _)) (blw1 _ _)) hb
theorem kC (h:Hid (C1 w g x)) (hb:Below w.heap.size w w'):Hid (C1 w' g x):=C1.keep h.out hb
theorem kFf (f:Hid (Ff w g)) (h:Hid (Cf w g n1 A1 m1 c1 n2 A2 m2 c2)) (hb:Below w.heap.size w w'):Hid (Ff w' g):=Ff.keep f.out h.out hb
theorem kFf1 (f:Hid (Ff w g)) (h:Hid (Cf w g n1 A1 m1 c1 n2 A2 m2 c2)) (hb:Below (w.alloc o1).heap.size (w.alloc o1) w'):Hid (Ff w' g):=Ff.keep (Ff.keep f.out h.out (blw1 _ _)) (Cf.keep h.out (blw1 _ _)) hb
theorem kFf2 (f:Hid (Ff w g)) (h:Hid (Cf w g n1 A1 m1 c1 n2 A2 m2 c2)) (hb:Below (((w.alloc o1)).alloc o2).heap.size (((w.alloc o1)).alloc o2) w'):Hid (Ff w' g):=Ff.keep (Ff.keep (Ff.keep f.out h.out (blw1 _ _)) (Cf.keep h.out (blw1 _ _)) (blw1 _ _)) (Cf.keep (Cf.keep h.out (blw1 _ _)) (blw1 _ _)) hb
theorem lF (h:Hid (Cf w g n1 A1 m1 c1 n2 A2 m2 c2)):g < w.heap.size:=lt_of_cell (a:=⟨g,0,none⟩) h.out.1
theorem lC (h:Hid (C1 w g x)):g < w.heap.size:=lt_of_cell (a:=⟨g,0,none⟩) h.out.1
end
end Go.Proofs.YtgnjhlnolihgcaaGreat
namespace Go.Proofs.YtgnjhlnolihgcaaGreat
def ceilZ (x y:Int):Int:=if x.fmod y=0 then x.fdiv y else x.fdiv y+1
section
variable {x y:Int}
theorem dm_parts (hy:0 < y):0≤x.fmod y∧x.fmod y < y∧y * x.fdiv y+x.fmod y=x:=
 ⟨Int.fmod_nonneg_of_pos x hy,Int.fmod_lt_of_pos x hy,Int.mul_fdiv_add_fmod x y⟩
theorem up_fit (hy:0 < y) (fx:fitZ x) (hr:x.fmod y≠0):fitZ (x.fdiv y+1):=by
 obtain ⟨h1,h2,h3⟩:=dm_parts (x:=x) hy;refine fit_mono (b:=x) ?_ fx;generalize x.fdiv y=q at *;generalize x.fmod y=r at *;rcases (by omega:0≤q∨q < 0) with h | h
 ·have:2 * q≤y * q:=Int.mul_le_mul_of_nonneg_right (by omega) h;omega
 ·have h4:y * (q+1)≤1 * (q+1):=Int.mul_le_mul_of_nonpos_right (by omega) (by omega);rw [Int.mul_add,Int.mul_one,Int.one_mul] at h4;omega
theorem ceil_fit (hy:0 < y) (fx:fitZ x):fitZ (ceilZ x y):=by
 unfold ceilZ;split
 ·exact fit_fdiv fx
 ·rename_i h
  exact up_fit hy fx h
end
end Go.Proofs.YtgnjhlnolihgcaaGreat
namespace Go.Proofs.YtgnjhlnolihgcaaGreat
open Go.Lib
def p10 (k:Nat):Bool × List Nat:=wOf ((10:Int) ^ k)
end Go.Proofs.YtgnjhlnolihgcaaGreat
namespace Go.Proofs.YtgnjhlnolihgcaaGreat
structure VFk (k:Nat) (n1:Bool) (l1:List Nat) (n2:Bool) (l2:List Nat) (x y:Int):Prop where
 vf:VF n1 l1 n2 l2 x y
 hx:x.natAbs < 4294967296 ^ k
 hy:y.natAbs < 4294967296 ^ k
section
variable {k j m:Nat} {n1 n2 n3 n4:Bool} {l1 l2 l3 l4:List Nat} {x y u v a b:Int}
theorem lt_up (h:a.natAbs < 4294967296 ^ k) (hk:k≤j):a.natAbs < 4294967296 ^ j:=Nat.lt_of_lt_of_le h (Nat.pow_le_pow_right (by omega) hk)
theorem q1h (h1:a.natAbs < 4294967296 ^ k) (h2:b.natAbs < 4294967296 ^ j):(a * b).natAbs < 4294967296 ^ (k+j):=by rw [Int.natAbs_mul]; exact mul_lt h1 h2
theorem add_few (h1:a.natAbs < 4294967296 ^ k) (h2:b.natAbs < 4294967296 ^ k):(a+b).natAbs < 4294967296 ^ (k+1):=by
 have:=lt_sum h1 h2;omega
theorem sub_few (h1:a.natAbs < 4294967296 ^ k) (h2:b.natAbs < 4294967296 ^ k):(a - b).natAbs < 4294967296 ^ (k+1):=by
 have:=lt_sum h1 h2;omega
theorem fit_few (h:a.natAbs < 4294967296 ^ k) (hk:k≤4096):fitB a=true:=q0s.2 (q1q h hk)
theorem add_good (h1:VFk k n1 l1 n2 l2 x y) (h2:VFk j n3 l3 n4 l4 u v) (hk:k+j+1≤4096):addV x y u v=(redZ (x * v+u * y) (y * v),0):=by
 have e1:=q1h h1.hx h2.hy;have e2:(u * y).natAbs < 4294967296 ^ (k+j):=(by have:=q1h h2.hx h1.hy; rwa [Nat.add_comm] at this);unfold addV;rw [fit_few e1 (by omega),fit_few e2 (by omega),fit_few (add_few e1 e2) hk,fit_few (q1h h1.hy h2.hy) (by omega)];rfl
theorem sub_good (h1:VFk k n1 l1 n2 l2 x y) (h2:VFk j n3 l3 n4 l4 u v) (hk:k+j+1≤4096):subV x y u v=(redZ (x * v - u * y) (y * v),0):=by
 have e1:=q1h h1.hx h2.hy;have e2:(u * y).natAbs < 4294967296 ^ (k+j):=(by have:=q1h h2.hx h1.hy; rwa [Nat.add_comm] at this);unfold subV;rw [fit_few e1 (by omega),fit_few e2 (by omega),fit_few (sub_few e1 e2) hk,fit_few (q1h h1.hy h2.hy) (by omega)];rfl
theorem mul_good (h1:VFk k n1 l1 n2 l2 x y) (h2:VFk j n3 l3 n4 l4 u v) (hk:k+j≤4096):mulV x y u v=(redZ (x * u) (y * v),0):=by
 unfold mulV;rw [fit_few (q1h h1.hx h2.hx) hk,fit_few (q1h h1.hy h2.hy) hk];rfl
end
section
variable {n1 n2 n3 n4 n5 n6:Bool} {l1 l2 l3 l4 l5 l6:List Nat} {x1 y1 x2 y2 x3 y3:Int}
end
end Go.Proofs.YtgnjhlnolihgcaaGreat
namespace Go.Proofs.YtgnjhlnolihgcaaGreat
def frQ (q:Rat):(Bool × List Nat) × (Bool × List Nat):=(wOf q.num,wOf q.den)
def Few (k:Nat) (q:Rat):Prop:=q.num.natAbs < 4294967296 ^ k∧((q.den:Nat):Int).natAbs < 4294967296 ^ k
section
variable {k j:Nat} {p q:Rat} {a b:Int}
theorem q0t (q:Rat):(0:Int) < q.den:=by have:=q.den_pos; omega
theorem Few.up (h:Few k q) (hk:k≤j):Few j q:=⟨lt_up h.1 hk,lt_up h.2 hk⟩
theorem few_vf (h:Few k q) (hk:k≤4096):VFk k (frQ q).1.1 (frQ q).1.2 (frQ q).2.1 (frQ q).2.2 q.num q.den:=
 ⟨⟨q0p (q1q h.1 hk),q0p (q1q h.2 hk),q0t q,by
  have:=q.reduced;unfold Nat.Coprime at this;simpa [Int.gcd] using this⟩,h.1,h.2⟩
theorem div_parts (hb:b≠0):redZ a b=frQ (Rat.divInt a b)∧(Rat.divInt a b).num.natAbs≤a.natAbs∧(((Rat.divInt a b).den:Nat):Int).natAbs≤b.natAbs:=by
 obtain ⟨x,y,h1,h2,h3,h4,h5⟩:=red_parts (x:=a) hb;have hg:=sg_ne (x:=a) hb;have e:=Rat.num_divInt_den (Rat.divInt a b);have hd:=q0t (Rat.divInt a b);have eq2:(Rat.divInt a b).num * b=a * ((Rat.divInt a b).den:Int):=(Rat.divInt_eq_divInt_iff (by omega) hb).1 e;have hr:=(Rat.divInt a b).reduced;unfold Nat.Coprime at hr;rw [h3];generalize Rat.divInt a b=q at *;generalize sgZ a b=g at *;have hq:q.num * b=a * q.den:=eq2;subst h1 h2
 have hxy:q.num * y=x * q.den:=by
  have:g * (q.num * y)=g * (x * q.den):=(by grind);exact Int.eq_of_mul_eq_mul_left hg this
 obtain ⟨e1,e2⟩:=frac_uniq hd h4 (by simpa [Int.gcd] using hr) h5 hxy;subst e1;refine ⟨by rw [← e2]; rfl,?_,?_⟩
 ·rw [Int.natAbs_mul]; exact Nat.le_mul_of_pos_left _ (by omega)
 ·rw [e2,Int.natAbs_mul]; exact Nat.le_mul_of_pos_left _ (by omega)
theorem few_div (hb:b≠0) (h1:a.natAbs < 4294967296 ^ k) (h2:b.natAbs < 4294967296 ^ k):Few k (Rat.divInt a b):=
 ⟨Nat.lt_of_le_of_lt (div_parts hb).2.1 h1,Nat.lt_of_le_of_lt (div_parts (a:=a) hb).2.2 h2⟩
theorem red_q (hb:b≠0):redZ a b=frQ (Rat.divInt a b):=(div_parts hb).1
theorem of_q (hb:b≠0):ofS a b=(frQ (Rat.divInt a b),0):=by unfold ofS; rw [if_neg hb,red_q hb]
theorem few_int {n:Int} (h:n.natAbs < 4294967296 ^ k) (hk:0 < k):Few k (n:Rat):=⟨by simpa using h,by
 have:1 < 4294967296 ^ k:=Nat.one_lt_pow (by omega) (by decide);simpa using this⟩
theorem few_two {n:Int} (h1 : -9223372036854775808≤n) (h2:n≤9223372036854775807):Few 2 (n:Rat):=few_int (by omega) (by omega)
theorem q_add (hp:Few k p) (hq:Few j q) (hk:k+j+1≤4096):q0y (frQ p).1.1 (frQ p).1.2 (frQ p).2.1 (frQ p).2.2 (frQ q).1.1 (frQ q).1.2 (frQ q).2.1 (frQ q).2.2 addV=(frQ (p+q),0)∧Few (k+j+1) (p+q):=by
 have v1:=few_vf hp (by omega);have v2:=few_vf hq (by omega);have d1:=q0t p;have d2:=q0t q
 have e:p+q=Rat.divInt (p.num * q.den+q.num * p.den) (p.den * q.den):=by
  rw [← Rat.divInt_add_divInt _ _ (by omega) (by omega),Rat.num_divInt_den,Rat.num_divInt_den]
 have hne:((p.den:Int) * q.den)≠0:=Int.mul_ne_zero (by omega) (by omega);refine ⟨?_,?_⟩
 ·rw [both_good v1.vf v2.vf,add_good v1 v2 hk,red_q hne,e]
 ·rw [e];refine few_div hne (add_few (q1h hp.1 hq.2) ?_) (lt_up (q1h hp.2 hq.2) (by omega));have:=q1h hq.1 hp.2;rwa [Nat.add_comm] at this
theorem q_sub (hp:Few k p) (hq:Few j q) (hk:k+j+1≤4096):q0y (frQ p).1.1 (frQ p).1.2 (frQ p).2.1 (frQ p).2.2 (frQ q).1.1 (frQ q).1.2 (frQ q).2.1 (frQ q).2.2 subV=(frQ (p - q),0)∧Few (k+j+1) (p - q):=by
 have v1:=few_vf hp (by omega);have v2:=few_vf hq (by omega);have d1:=q0t p;have d2:=q0t q
 have e:p - q=Rat.divInt (p.num * q.den - q.num * p.den) (p.den * q.den):=by
  rw [← Rat.divInt_sub_divInt _ _ (by omega) (by omega),Rat.num_divInt_den,Rat.num_divInt_den]
 have hne:((p.den:Int) * q.den)≠0:=Int.mul_ne_zero (by omega) (by omega);refine ⟨?_,?_⟩
 ·rw [both_good v1.vf v2.vf,sub_good v1 v2 hk,red_q hne,e]
 ·rw [e];refine few_div hne (sub_few (q1h hp.1 hq.2) ?_) (lt_up (q1h hp.2 hq.2) (by omega));have:=q1h hq.1 hp.2;rwa [Nat.add_comm] at this
theorem q_mul (hp:Few k p) (hq:Few j q) (hk:k+j≤4096):q0y (frQ p).1.1 (frQ p).1.2 (frQ p).2.1 (frQ p).2.2 (frQ q).1.1 (frQ q).1.2 (frQ q).2.1 (frQ q).2.2 mulV=(frQ (p * q),0)∧Few (k+j) (p * q):=by
 have v1:=few_vf hp (by omega);have v2:=few_vf hq (by omega);have d1:=q0t p;have d2:=q0t q
 have e:p * q=Rat.divInt (p.num * q.num) (p.den * q.den):=by
  rw [← Rat.divInt_mul_divInt,Rat.num_divInt_den,Rat.num_divInt_den]
 have hne:((p.den:Int) * q.den)≠0:=Int.mul_ne_zero (by omega) (by omega);refine ⟨?_,?_⟩
 ·rw [both_good v1.vf v2.vf,mul_good v1 v2 hk,red_q hne,e]
 ·rw [e];exact few_div hne (q1h hp.1 hq.1) (q1h hp.2 hq.2)
end
end Go.Proofs.YtgnjhlnolihgcaaGreat
namespace Go.Proofs.YtgnjhlnolihgcaaGreat
def cfQ (l:List Int) (k:Nat):Rat:=((l.getD k 0:Int):Rat)
def chT (x:Rat):Nat→Rat
 | 0=>1
 | 1=>x
 | k+2=>2 * (x * chT x (k+1))+(-1) * chT x k
def chD (x:Rat):Nat→Rat
 | 0=>0
 | 1=>1
 | k+2=>2 * (chT x (k+1)+x * chD x (k+1))+(-1) * chD x k
def chU (x:Rat):Nat→Rat
 | 0=>1
 | 1=>x+x
 | k+2=>(x+x) * chU x (k+1) - chU x k
def chS (c:Nat→Rat) (P:Nat→Rat):Nat→Rat
 | 0=>0
 | n+1=>chS c P n+c n * P n
def clen (c:Nat→Rat) (y:Rat) (n:Nat):Nat→Rat × Rat
 | 0=>(0,0)
 | j+1=>(c (n - 1 - j)+y * (clen c y n j).1 - (clen c y n j).2,(clen c y n j).1)
theorem clen_inv {c P:Nat→Rat} {y:Rat} (hP:∀ k,P (k+2)=y * P (k+1) - P k) (n:Nat):∀ j,j+1≤n→chS c P n=chS c P (n - j)+(clen c y n j).1 * P (n - j) - (clen c y n j).2 * P (n - j - 1)
 | 0,_=>by simp [clen]; grind
 | j+1,h=>by
  have ih:=clen_inv (c:=c) hP n j (by omega);obtain ⟨m,hm⟩:∃ m,n=m+j+2:=⟨n - j - 2,by omega⟩;subst hm;have e1:m+j+2 - j=m+2:=(by omega);have e3:m+j+2 - (j+1)=m+1:=(by omega);have e5:m+j+2 - 1 - j=m+1:=(by omega);rw [ih,e1,e3];simp only [clen,e5,chS,hP,Nat.add_sub_cancel];grind
theorem chT_step (x:Rat) (k:Nat):chT x (k+2)=(x+x) * chT x (k+1) - chT x k:=by
 simp only [chT]; grind
theorem value_eq (c:Nat→Rat) (x:Rat) {n:Nat} (hn:0 < n):c 0+x * (clen c (x+x) n (n - 1)).1 - (clen c (x+x) n (n - 1)).2=chS c (chT x) n:=by
 rw [clen_inv (chT_step x) n (n - 1) (by omega),show n - (n - 1)=1 by omega,show 1 - 1=0 from rfl];simp only [chS,chT];grind
theorem chU_T (x:Rat):∀ k,chT x (k+1)=chU x (k+1) - x * chU x k
 | 0=>by simp only [chT,chU]; grind
 | 1=>by simp only [chT,chU]; grind
 | k+2=>by
  have h1:=chU_T x k;have h2:=chU_T x (k+1);rw [chT_step x (k+1),h1,h2];simp only [chU];grind
end Go.Proofs.YtgnjhlnolihgcaaGreat
namespace Go.Proofs.YtgnjhlnolihgcaaGreat
theorem chU_step (x:Rat) (k:Nat):chU x (k+1)=x * chU x k+chT x (k+1):=by
 rw [chU_T x k]; grind
theorem chT_next (x:Rat) (k:Nat):chT x (k+2)=x * chT x (k+1) - (1 - x * x) * chU x k:=by
 rw [chU_T x (k+1),chU_T x k];simp only [chU];grind
theorem pell (x:Rat):∀ k,chT x (k+1) * chT x (k+1)+(1 - x * x) * (chU x k * chU x k)=1
 | 0=>by simp only [chT,chU]; grind
 | k+1=>by
  have ih:=pell x k;rw [chT_next x k,chU_step x k];generalize chT x (k+1)=t at *;generalize chU x k=u at *;grind
theorem sq_bd {a:Rat} (h:a * a≤1) : -1≤a∧a≤1:=by
 constructor
 ·apply Rat.not_lt.1
  intro h1;have:0 < (-1 - a) * (1 - a):=Rat.mul_pos (by grind) (by grind);grind
 ·apply Rat.not_lt.1
  intro h1;have:0 < (a - 1) * (a+1):=Rat.mul_pos (by grind) (by grind);grind
theorem sq_nn (a:Rat):0≤a * a:=by
 rcases (Rat.le_total:0≤a∨a≤0) with h | h
 ·exact Rat.mul_nonneg h h
 ·have:=Rat.mul_nonneg (a:=-a) (b:=-a) (by grind) (by grind);grind
section
variable {x y:Rat} (h1 : -1≤x) (h2:x≤1)
include h1 h2
theorem one_sq:0≤1 - x * x:=by
 have:=Rat.mul_nonneg (a:=1 - x) (b:=1+x) (by grind) (by grind);grind
theorem chT_bd (k:Nat) : -1≤chT x k∧chT x k≤1:=by
 rcases k with _ | k
 ·simp only [chT]; constructor <;> decide
 ·refine sq_bd ?_;have h:=pell x k;have:=Rat.mul_nonneg (one_sq h1 h2) (sq_nn (chU x k));grind
theorem mul_bd {b c:Rat} (hb : -c≤b∧b≤c) : -c≤x * b∧x * b≤c:=by
 have e1:=Rat.mul_nonneg (a:=1 - x) (b:=c+b) (by grind) (by grind);have e2:=Rat.mul_nonneg (a:=1+x) (b:=c - b) (by grind) (by grind);have e3:=Rat.mul_nonneg (a:=1 - x) (b:=c - b) (by grind) (by grind);have e4:=Rat.mul_nonneg (a:=1+x) (b:=c+b) (by grind) (by grind);constructor <;> grind
theorem chU_bd:∀ k,-((k+1:Nat):Rat)≤chU x k∧chU x k≤((k+1:Nat):Rat)
 | 0=>by simp only [chU]; constructor <;> decide
 | k+1=>by
  have ih:=chU_bd k;have t:=chT_bd h1 h2 (k+1);have m:=mul_bd h1 h2 ih;rw [chU_step];have e:((k+1+1:Nat):Rat)=((k+1:Nat):Rat)+1:=(by push_cast; grind);rw [e];generalize ((k+1:Nat):Rat)=c at *;constructor <;> grind
end
theorem chS_bd {x M:Rat} (h1 : -1≤x) (h2:x≤1) {c:Nat→Rat} {n:Nat} (hc:∀ k,k < n → -M≤c k∧c k≤M) : -((n:Rat) * M)≤chS c (chT x) n∧chS c (chT x) n≤(n:Rat) * M:=by
 induction n with
 | zero=>simp [chS]
 | succ n ih=>
  obtain ⟨i1,i2⟩:=ih fun k hk=>hc k (by omega);obtain ⟨t1,t2⟩:=chT_bd h1 h2 n;obtain ⟨m1,m2⟩:=mul_bd t1 t2 (hc n (by omega));have e:((n+1:Nat):Rat) * M=(n:Rat) * M+M:=(by push_cast; grind);rw [e];simp only [chS];generalize (n:Rat) * M=z at *;generalize chT x n=t at *;generalize chS c (chT x) n=s at *;constructor <;> grind
def chP (x y:Rat):Nat→Rat
 | 0=>0
 | 1=>1
 | k+2=>(x+x) * chP x y (k+1) - chP x y k+2 * chT y (k+1)
theorem chP_diff (x y:Rat):∀ k,chT x k - chT y k=(x - y) * chP x y k
 | 0=>by simp only [chT,chP]; grind
 | 1=>by simp only [chT,chP]; grind
 | k+2=>by
  have h1:=chP_diff x y k;have h2:=chP_diff x y (k+1);rw [chT_step,chT_step];simp only [chP];generalize chT x (k+1)=a at *;generalize chT y (k+1)=b at *;grind
section
variable {x y:Rat} (h1 : -1≤x) (h2:x≤1) (h3 : -1≤y) (h4:y≤1)
include h1 h2 h3 h4
theorem ut_bd (j k:Nat) : -((k+1:Nat):Rat)≤chT y j * chU x k∧chT y j * chU x k≤((k+1:Nat):Rat):=
 mul_bd (chT_bd h3 h4 j).1 (chT_bd h3 h4 j).2 (chU_bd h1 h2 k)
theorem chP_bd {k:Nat} (hk:k≤5) : -((k * k:Nat):Rat)≤chP x y k∧chP x y k≤((k * k:Nat):Rat):=by
 have hk':k=0∨k=1∨k=2∨k=3∨k=4∨k=5:=(by omega);rcases hk' with rfl | rfl | rfl | rfl | rfl | rfl
 ·simp only [chP]; constructor <;> decide
 ·simp only [chP]; constructor <;> decide
 ·have e:chP x y 2=chU x 1+2 * (chT y 1 * chU x 0):=(by simp only [chP,chU,chT]; grind);have a:=chU_bd h1 h2 1;have b:=ut_bd h1 h2 h3 h4 1 0;rw [e];generalize chU x 1=u at *;generalize chT y 1 * chU x 0=v at *;push_cast at *
  constructor <;> grind
 ·have e:chP x y 3=chU x 2+2 * (chT y 1 * chU x 1)+2 * (chT y 2 * chU x 0):=(by simp only [chP,chU,chT]; grind);have a:=chU_bd h1 h2 2;have b:=ut_bd h1 h2 h3 h4 1 1;have c:=ut_bd h1 h2 h3 h4 2 0;rw [e];generalize chU x 2=u at *;generalize chT y 1 * chU x 1=v at *;generalize chT y 2 * chU x 0=w at *;push_cast at *
  constructor <;> grind
 ·have e:chP x y 4=chU x 3+2 * (chT y 1 * chU x 2)+2 * (chT y 2 * chU x 1)+2 * (chT y 3 * chU x 0):=(by simp only [chP,chU,chT]; grind);have a:=chU_bd h1 h2 3;have b:=ut_bd h1 h2 h3 h4 1 2;have c:=ut_bd h1 h2 h3 h4 2 1;have d:=ut_bd h1 h2 h3 h4 3 0;rw [e];generalize chU x 3=u at *;generalize chT y 1 * chU x 2=v at *;generalize chT y 2 * chU x 1=w at *;generalize chT y 3 * chU x 0=z at *;push_cast at *
  constructor <;> grind
 ·have e:chP x y 5=chU x 4+2 * (chT y 1 * chU x 3)+2 * (chT y 2 * chU x 2)+2 * (chT y 3 * chU x 1)+2 * (chT y 4 * chU x 0):=(by simp only [chP,chU,chT]; grind);have a:=chU_bd h1 h2 4;have b:=ut_bd h1 h2 h3 h4 1 3;have c:=ut_bd h1 h2 h3 h4 2 2;have d:=ut_bd h1 h2 h3 h4 3 1;have f:=ut_bd h1 h2 h3 h4 4 0;rw [e];generalize chU x 4=u at *;generalize chT y 1 * chU x 3=v at *;generalize chT y 2 * chU x 2=w at *;generalize chT y 3 * chU x 1=z at *;generalize chT y 4 * chU x 0=z2 at *;push_cast at *
  constructor <;> grind
end
def swQ (a:Nat→Rat):Nat→Rat
 | 0=>0
 | n+1=>swQ a n+((n * n:Nat):Rat) * a n
theorem chS_lip {x y d:Rat} (h1 : -1≤x) (h2:x≤1) (h3 : -1≤y) (h4:y≤1) (d1 : -d≤x - y) (d2:x - y≤d) {c a:Nat→Rat} : ∀ {n:Nat},n≤6→(∀ k,k < n → -(a k)≤c k∧c k≤a k) →
  -(d * swQ a n)≤chS c (chT x) n - chS c (chT y) n∧chS c (chT x) n - chS c (chT y) n≤d * swQ a n
 | 0,_,_=>by simp only [chS,swQ]; constructor <;> grind
 | n+1,hn,hc=>by
  obtain ⟨i1,i2⟩:=chS_lip h1 h2 h3 h4 d1 d2 (n:=n) (by omega) fun k hk=>hc k (by omega);obtain ⟨p1,p2⟩:=chP_bd h1 h2 h3 h4 (k:=n) (by omega);obtain ⟨a1,a2⟩:=hc n (by omega);have hd:=chP_diff x y n
  have e:chS c (chT x) (n+1) - chS c (chT y) (n+1)=chS c (chT x) n - chS c (chT y) n+(x - y) * (c n * chP x y n):=by
   simp only [chS];generalize chT x n=t at *;generalize chT y n=u at *;generalize chP x y n=v at *;grind
  rw [e];simp only [swQ];generalize ((n * n:Nat):Rat)=m at *;generalize c n=cn at *;generalize a n=an at *;generalize chP x y n=p at *;clear hd e hc
  have q : -(m * an)≤cn * p∧cn * p≤m * an:=by
   have e1:=Rat.mul_nonneg (a:=an - cn) (b:=m+p) (by grind) (by grind);have e2:=Rat.mul_nonneg (a:=an+cn) (b:=m - p) (by grind) (by grind);have e3:=Rat.mul_nonneg (a:=an - cn) (b:=m - p) (by grind) (by grind);have e4:=Rat.mul_nonneg (a:=an+cn) (b:=m+p) (by grind) (by grind);constructor <;> grind
  generalize cn * p=z at *;generalize m * an=s at *
  have r : -(d * s)≤(x - y) * z∧(x - y) * z≤d * s:=by
   generalize x - y=f at *;have e1:=Rat.mul_nonneg (a:=d - f) (b:=s+z) (by grind) (by grind);have e2:=Rat.mul_nonneg (a:=d+f) (b:=s - z) (by grind) (by grind);have e3:=Rat.mul_nonneg (a:=d - f) (b:=s - z) (by grind) (by grind);have e4:=Rat.mul_nonneg (a:=d+f) (b:=s+z) (by grind) (by grind);constructor <;> grind
  generalize (x - y) * z=f at *;generalize chS c (chT x) n - chS c (chT y) n=g at *;have:d * (swQ a n+s)=d * swQ a n+d * s:=(by grind);rw [this];generalize d * swQ a n=i at *;generalize d * s=j at *;constructor <;> grind
end Go.Proofs.YtgnjhlnolihgcaaGreat
namespace Go.Proofs.YtgnjhlnolihgcaaGreat
open Go.RowKit
theorem Cf.newF {W:World} {g:Nat} {n1 n2:Bool} {A1 A2:Option Addr} {m1 c1 m2 c2:Nat} (k:Cf W g n1 A1 m1 c1 n2 A2 m2 c2) {p1 p2:Bool} {B1 B2:Option Addr} {q1 d1 q2 d2:Nat} :
  Cf ((((W.setCell ⟨g,0,none⟩ (.bool p1)).setCell ⟨g,1,none⟩ (.slice B1 q1 d1)).setCell ⟨g,2,none⟩ (.bool p2)).setCell ⟨g,3,none⟩ (.slice B2 q2 d2)) g p1 B1 q1 d1 p2 B2 q2 d2:=by
 obtain ⟨h0,h1,h2,h3⟩:=k;have ne:∀ i j:Nat,i≠j→(⟨g,i,none⟩:Addr)≠⟨g,j,none⟩:=fun i j hij e=>hij (by injection e);have s0:=World.cell?_setCell_same W ⟨g,0,none⟩ (.bool p1) h0;have s1:=World.cell?_setCell_same (W.setCell ⟨g,0,none⟩ (.bool p1)) ⟨g,1,none⟩ (.slice B1 q1 d1) ((World.cell?_setCell_other _ _ _ _ (ne 0 1 (by decide))).trans h1);have s2:=World.cell?_setCell_same ((W.setCell ⟨g,0,none⟩ (.bool p1)).setCell ⟨g,1,none⟩ (.slice B1 q1 d1)) ⟨g,2,none⟩ (.bool p2) (((World.cell?_setCell_other _ _ _ _ (ne 1 2 (by decide))).trans (World.cell?_setCell_other _ _ _ _ (ne 0 2 (by decide)))).trans h2);have s3:=World.cell?_setCell_same (((W.setCell ⟨g,0,none⟩ (.bool p1)).setCell ⟨g,1,none⟩ (.slice B1 q1 d1)).setCell ⟨g,2,none⟩ (.bool p2)) ⟨g,3,none⟩ (.slice B2 q2 d2) ((((World.cell?_setCell_other _ _ _ _ (ne 2 3 (by decide))).trans (World.cell?_setCell_other _ _ _ _ (ne 1 3 (by decide)))).trans (World.cell?_setCell_other _ _ _ _ (ne 0 3 (by decide)))).trans h3);refine ⟨?_,?_,?_,s3⟩
 ·rw [World.cell?_setCell_other _ _ _ _ (ne 3 0 (by decide)),World.cell?_setCell_other _ _ _ _ (ne 2 0 (by decide)),World.cell?_setCell_other _ _ _ _ (ne 1 0 (by decide))]; exact s0
 ·rw [World.cell?_setCell_other _ _ _ _ (ne 3 1 (by decide)),World.cell?_setCell_other _ _ _ _ (ne 2 1 (by decide))]; exact s1
 ·rw [World.cell?_setCell_other _ _ _ _ (ne 3 2 (by decide))]; exact s2
theorem Cf.farF {W:World} {g g':Nat} {n1 n2:Bool} {A1 A2:Option Addr} {m1 c1 m2 c2:Nat} (k:Cf W g n1 A1 m1 c1 n2 A2 m2 c2) (hne:g≠g') (x y z u:Value) :
  Cf ((((W.setCell ⟨g',0,none⟩ x).setCell ⟨g',1,none⟩ y).setCell ⟨g',2,none⟩ z).setCell ⟨g',3,none⟩ u) g n1 A1 m1 c1 n2 A2 m2 c2:=by
 have f:∀ (i j:Nat) (V:World) (v:Value),(V.setCell ⟨g',j,none⟩ v).cell? ⟨g,i,none⟩=V.cell? ⟨g,i,none⟩:=fun i j V v=>World.cell?_setCell_other _ _ _ _ (fun e=>hne (congrArg Addr.block e).symm);obtain ⟨h0,h1,h2,h3⟩:=k;exact ⟨by rw [f,f,f,f]; exact h0,by rw [f,f,f,f]; exact h1,by rw [f,f,f,f]; exact h2,by rw [f,f,f,f]; exact h3⟩
theorem Ff.putF {W:World} {g h:Nat} (f:Ff W h) (x y z u:Value):Ff ((((W.setCell ⟨g,0,none⟩ x).setCell ⟨g,1,none⟩ y).setCell ⟨g,2,none⟩ z).setCell ⟨g,3,none⟩ u) h:=by
 obtain ⟨a,b,c,d⟩:=f;exact ⟨by simpa using a,by simpa using b,by simpa using c,by simpa using d⟩
theorem Cw.farF {W:World} {g g':Nat} {n:Bool} {A:Option Addr} {m c:Nat} (k:Cw W g n A m c) (hne:g≠g') (x y z u:Value) :
  Cw ((((W.setCell ⟨g',0,none⟩ x).setCell ⟨g',1,none⟩ y).setCell ⟨g',2,none⟩ z).setCell ⟨g',3,none⟩ u) g n A m c:=by
 have f:∀ (i j:Nat) (V:World) (v:Value),(V.setCell ⟨g',j,none⟩ v).cell? ⟨g,i,none⟩=V.cell? ⟨g,i,none⟩:=fun i j V v=>World.cell?_setCell_other _ _ _ _ (fun e=>hne (congrArg Addr.block e).symm);obtain ⟨h0,h1⟩:=k;exact ⟨by rw [f,f,f,f]; exact h0,by rw [f,f,f,f]; exact h1⟩
theorem Cf.neg {W:World} {g:Nat} {n1 n2:Bool} {A1 A2:Option Addr} {m1 c1 m2 c2:Nat} (k:Cf W g n1 A1 m1 c1 n2 A2 m2 c2) (p:Bool) :
  Cf (W.setCell ⟨g,0,none⟩ (.bool p)) g p A1 m1 c1 n2 A2 m2 c2:=by
 obtain ⟨h0,h1,h2,h3⟩:=k;have f:∀ i:Nat,0≠i→(W.setCell ⟨g,0,none⟩ (.bool p)).cell? ⟨g,i,none⟩=W.cell? ⟨g,i,none⟩:=fun i hi=>World.cell?_setCell_other _ _ _ _ (fun e=>hi (by injection e));exact ⟨World.cell?_setCell_same W ⟨g,0,none⟩ (.bool p) h0,(f 1 (by decide)).trans h1,(f 2 (by decide)).trans h2,(f 3 (by decide)).trans h3⟩
theorem Cf.far1 {W:World} {g g':Nat} {n1 n2:Bool} {A1 A2:Option Addr} {m1 c1 m2 c2:Nat} (k:Cf W g n1 A1 m1 c1 n2 A2 m2 c2) (hne:g≠g') (x:Value) :
  Cf (W.setCell ⟨g',0,none⟩ x) g n1 A1 m1 c1 n2 A2 m2 c2:=by
 have f:∀ i:Nat,(W.setCell ⟨g',0,none⟩ x).cell? ⟨g,i,none⟩=W.cell? ⟨g,i,none⟩:=fun i=>World.cell?_setCell_other _ _ _ _ (fun e=>hne (congrArg Addr.block e).symm);obtain ⟨h0,h1,h2,h3⟩:=k;exact ⟨(f 0).trans h0,(f 1).trans h1,(f 2).trans h2,(f 3).trans h3⟩
theorem Sl.setC {w:World} {A:Option Addr} {l:List Nat} {c g:Nat} {n:Bool} {A2:Option Addr} {n2 c2:Nat} (h:Sl w A l c) (q:Cw w g n A2 n2 c2) (x y:Value):Sl ((w.setCell ⟨g,0,none⟩ x).setCell ⟨g,1,none⟩ y) A l c:=h.setW q.1 q.2 x y
section
variable {W:World} {g g':Nat} {v0 v1 v2 v3:Value}
theorem far_cell (hne:g≠g') (i j:Nat) (V:World) (v:Value):(V.setCell ⟨g',j,none⟩ v).cell? ⟨g,i,none⟩=V.cell? ⟨g,i,none⟩:=World.cell?_setCell_other _ _ _ _ (fun e=>hne (congrArg Addr.block e).symm)
end
end Go.Proofs.YtgnjhlnolihgcaaGreat