import Derived.Test.YtgnjhlnolihgcaaGreatMathZ
import Derived.Test.YtgnjhlnolihgcaaGreatMem
import Derived.Lib.SlTrimSet
import Derived.Lib.Repeat
namespace Go.Proofs.YtgnjhlnolihgcaaGreat
def badF (n1:Bool) (l1:List Nat) (n2:Bool) (l2:List Nat):Bool:=
 badL n1 l1 || badL n2 l2 || n2 || decide (l2.length=0) || !decide (Nat.gcd (val l1) (val l2)=1)
def chkF (n1:Bool) (l1:List Nat) (n2:Bool) (l2:List Nat):Int:=if badF n1 l1 n2 l2 then 8 else 0
def sgZ (x y:Int):Int:=if y < 0 then -(Int.gcd x y:Int) else (Int.gcd x y:Int)
def redZ (x y:Int):(Bool × List Nat) × (Bool × List Nat):=(wOf (x.fdiv (sgZ x y)),wOf (y.fdiv (sgZ x y)))
def zF:(Bool × List Nat) × (Bool × List Nat):=((false,[]),(false,[]))
def fitB (z:Int):Bool:=decide ((limbs z.natAbs).length≤4096)
theorem fitB_iff {z:Int} : fitB z=true ↔ fitZ z:=by unfold fitB fitZ; exact decide_eq_true_iff
def makeS (n1:Bool) (l1:List Nat) (n2:Bool) (l2:List Nat):((Bool × List Nat) × (Bool × List Nat)) × Int:=
 if badL n1 l1 || badL n2 l2 then (zF,8) else if l2.length=0 then (zF,18) else (redZ (zv n1 l1) (zv n2 l2),0)
def ofS (x y:Int):((Bool × List Nat) × (Bool × List Nat)) × Int:=if y=0 then (zF,18) else (redZ x y,0)
structure VF (n1:Bool) (l1:List Nat) (n2:Bool) (l2:List Nat) (x y:Int):Prop where
 num:VZ n1 l1 x
 den:VZ n2 l2 y
 pos:0 < y
 one:Int.gcd x y=1
section
variable {n1 n2:Bool} {l1 l2:List Nat} {x y:Int}
theorem VF.good (h:VF n1 l1 n2 l2 x y):badF n1 l1 n2 l2=false:=by
 have hn:n2=false:=(by rw [h.den.neg_eq]; exact decide_eq_false (by have:=h.pos; omega));have hl:l2.length≠0:=fun e=>by have:=h.den.zero.1 e; have:=h.pos; omega
 have hg:Nat.gcd (val l1) (val l2)=1:=(by rw [h.num.val_eq,h.den.val_eq]; exact h.one);unfold badF;simp only [Bool.or_eq_false_iff,decide_eq_false_iff_not,Bool.not_eq_false',decide_eq_true_eq];exact ⟨⟨⟨⟨h.num.good,h.den.good⟩,hn⟩,hl⟩,hg⟩
theorem vf_of (h1:Lim l1) (h2:Lim l2) (h:badF n1 l1 n2 l2=false):VF n1 l1 n2 l2 (zv n1 l1) (zv n2 l2):=by
 unfold badF at h;simp only [Bool.or_eq_false_iff,decide_eq_false_iff_not,Bool.not_eq_false',decide_eq_true_eq] at h;obtain ⟨⟨⟨⟨a,b⟩,c⟩,d⟩,e⟩:=h;have v1:=vz_of h1 a;have v2:=vz_of h2 b;refine ⟨v1,v2,?_,?_⟩
 ·have h0:=mt v2.zero.2 d;have:=of_decide_eq_false (v2.neg_eq.symm.trans c);omega
 ·rw [← e,v1.val_eq,v2.val_eq]; rfl
theorem VF.chk (h:VF n1 l1 n2 l2 x y):chkF n1 l1 n2 l2=0:=by unfold chkF; rw [h.good]; rfl
theorem sg_abs (x y:Int):(sgZ x y).natAbs=Int.gcd x y:=by unfold sgZ; split <;> simp
theorem sg_ne (hy:y≠0):sgZ x y≠0:=fun e=>by
 have:=sg_abs x y;rw [e] at this;have h0:=Int.gcd_eq_zero_iff.1 this.symm;exact hy h0.2
theorem fit_sg (h1:fitZ x) (h2:fitZ y):fitZ (sgZ x y):=by
 have h:=fit_gcd h1 h2;unfold fitZ at *;rw [sg_abs];simpa using h
theorem sg_dvd_left (x y:Int):sgZ x y ∣ x:=by
 unfold sgZ; split
 ·exact (Int.neg_dvd).2 (Int.gcd_dvd_left ..)
 ·exact Int.gcd_dvd_left ..
theorem sg_dvd_right (x y:Int):sgZ x y ∣ y:=by
 unfold sgZ; split
 ·exact (Int.neg_dvd).2 (Int.gcd_dvd_right ..)
 ·exact Int.gcd_dvd_right ..
end
theorem make_good {n1 n2:Bool} {l1 l2:List Nat} {x y:Int} (h1:VZ n1 l1 x) (h2:VZ n2 l2 y):makeS n1 l1 n2 l2=ofS x y:=by
 unfold makeS ofS;rw [h1.good,h2.good,if_neg (by simp),h1.zv_eq,h2.zv_eq];by_cases hy:y=0
 ·rw [if_pos hy,if_pos (h2.zero.2 hy)]
 ·rw [if_neg hy,if_neg (mt h2.zero.1 hy)]
end Go.Proofs.YtgnjhlnolihgcaaGreat
namespace Go.Proofs.YtgnjhlnolihgcaaGreat
def outF (fits:Bool) (x y:Int):((Bool × List Nat) × (Bool × List Nat)) × Int:=if fits then (redZ x y,0) else (zF,16)
def subV (x1 y1 x2 y2:Int):((Bool × List Nat) × (Bool × List Nat)) × Int:=outF (fitB (x1 * y2) && fitB (x2 * y1) && fitB (x1 * y2 - x2 * y1) && fitB (y1 * y2)) (x1 * y2 - x2 * y1) (y1 * y2)
def mulV (x1 y1 x2 y2:Int):((Bool × List Nat) × (Bool × List Nat)) × Int:=outF (fitB (x1 * x2) && fitB (y1 * y2)) (x1 * x2) (y1 * y2)
def divV (x1 y1 x2 y2:Int):((Bool × List Nat) × (Bool × List Nat)) × Int:=if x2=0 then (zF,18) else outF (fitB (x1 * y2) && fitB (y1 * x2)) (x1 * y2) (y1 * x2)
section
variable (n1:Bool) (l1:List Nat) (n2:Bool) (l2:List Nat) (n3:Bool) (l3:List Nat) (n4:Bool) (l4:List Nat)
def bothF (V:Int→Int→Int→Int→((Bool × List Nat) × (Bool × List Nat)) × Int):((Bool × List Nat) × (Bool × List Nat)) × Int:=
 if badF n1 l1 n2 l2 || badF n3 l3 n4 l4 then (zF,8) else V (zv n1 l1) (zv n2 l2) (zv n3 l3) (zv n4 l4)
end
section
variable {n1 n2 n3 n4:Bool} {l1 l2 l3 l4:List Nat} {x y x' y':Int}
theorem both_good {V:Int→Int→Int→Int→((Bool × List Nat) × (Bool × List Nat)) × Int} (h:VF n1 l1 n2 l2 x y) (k:VF n3 l3 n4 l4 x' y'):bothF n1 l1 n2 l2 n3 l3 n4 l4 V=V x y x' y':=by
 unfold bothF;rw [h.good,k.good,if_neg (by simp),h.num.zv_eq,h.den.zv_eq,k.num.zv_eq,k.den.zv_eq]
theorem red_parts (hy:y≠0):∃ a b:Int,x=sgZ x y * a∧y=sgZ x y * b∧redZ x y=(wOf a,wOf b)∧0 < b∧Int.gcd a b=1:=by
 have hs:=sg_ne (x:=x) hy;obtain ⟨a,ha⟩:=sg_dvd_left x y;obtain ⟨b,hb⟩:=sg_dvd_right x y;refine ⟨a,b,ha,hb,?_,?_,?_⟩
 ·unfold redZ;generalize sgZ x y=g at *;rw [ha,hb,Int.mul_fdiv_cancel_left a hs,Int.mul_fdiv_cancel_left b hs]
 ·have hsg:(y < 0→sgZ x y < 0)∧(0 < y→0 < sgZ x y):=by
   have h0:=sg_abs x y;unfold sgZ at *;constructor <;> intro h
   ·rw [if_pos h] at *; omega
   ·rw [if_neg (by omega)] at *; omega
  generalize sgZ x y=g at *;rcases Int.lt_or_gt_of_ne hy with h | h
  ·have hg:=hsg.1 h;rcases (by omega:0 < b∨b≤0) with hb0 | hb0
   ·exact hb0
   ·have:=Int.mul_nonneg_of_nonpos_of_nonpos (Int.le_of_lt hg) hb0;omega
  ·have hg:=hsg.2 h;rcases (by omega:0 < b∨b≤0) with hb0 | hb0
   ·exact hb0
   ·have:=Int.mul_nonpos_of_nonneg_of_nonpos (Int.le_of_lt hg) hb0;omega
 ·have h1:=sg_abs x y
  have h2:Int.gcd x y=(sgZ x y).natAbs * Int.gcd a b:=by
   generalize sgZ x y=g at *;rw [ha,hb];exact Int.gcd_mul_left ..
  rw [← h1] at h2;have h3:0 < (sgZ x y).natAbs:=(by omega);have h4:(sgZ x y).natAbs * 1=(sgZ x y).natAbs * Int.gcd a b:=(by omega);exact (Nat.eq_of_mul_eq_mul_left h3 h4).symm
theorem frac_uniq (hy:0 < y) (hy':0 < y') (h1:Int.gcd x y=1) (h2:Int.gcd x' y'=1) (h:x * y'=x' * y):x=x'∧y=y':=by
 have e:x.natAbs * y'.natAbs=x'.natAbs * y.natAbs:=(by rw [← Int.natAbs_mul,← Int.natAbs_mul,h]);have c1:Nat.Coprime y.natAbs x.natAbs:=(by rw [Nat.coprime_comm]; exact h1);have c2:Nat.Coprime y'.natAbs x'.natAbs:=(by rw [Nat.coprime_comm]; exact h2);have d1:y.natAbs ∣ y'.natAbs:=c1.dvd_of_dvd_mul_left (e ▸ Nat.dvd_mul_left ..);have d2:y'.natAbs ∣ y.natAbs:=c2.dvd_of_dvd_mul_left (e ▸ Nat.dvd_mul_left ..);have hyy:y=y':=(by have:=Nat.dvd_antisymm d1 d2; omega);subst hyy;exact ⟨Int.eq_of_mul_eq_mul_right (by omega) h,rfl⟩
theorem red_eq {u v:Int} (hy:y≠0) (hv:v≠0) (h:x * v=u * y):redZ x y=redZ u v:=by
 obtain ⟨a,b,hx,hy2,hr,hb,hg⟩:=red_parts (x:=x) hy;obtain ⟨a',b',hu,hv2,hr',hb',hg'⟩:=red_parts (x:=u) hv;have hs:=sg_ne (x:=x) hy;have hs':=sg_ne (x:=u) hv;rw [hr,hr'];generalize sgZ x y=g at *;generalize sgZ u v=g' at *
 have e:a * b'=a' * b:=by
  have:(g * g') * (a * b')=(g * g') * (a' * b):=by
   rw [hx,hy2,hu,hv2] at h;grind
  exact Int.eq_of_mul_eq_mul_left (Int.mul_ne_zero hs hs') this
 obtain ⟨rfl,rfl⟩:=frac_uniq hb hb' hg hg' e;rfl
theorem red_vf (hy:y≠0) (fx:fitZ x) (fy:fitZ y):∃ a b:Int,VF (redZ x y).1.1 (redZ x y).1.2 (redZ x y).2.1 (redZ x y).2.2 a b∧a * y=x * b∧a.natAbs≤x.natAbs∧b.natAbs≤y.natAbs:=by
 obtain ⟨a,b,hx,hy2,hr,hb,hg⟩:=red_parts (x:=x) hy;have hs:=sg_ne (x:=x) hy
 have ha:a.natAbs≤x.natAbs:=by
  generalize sgZ x y=g at *;rw [hx,Int.natAbs_mul];exact Nat.le_mul_of_pos_left _ (by omega)
 have hb2:b.natAbs≤y.natAbs:=by
  generalize sgZ x y=g at *;rw [hy2,Int.natAbs_mul];exact Nat.le_mul_of_pos_left _ (by omega)
 refine ⟨a,b,?_,?_,ha,hb2⟩
 ·rw [hr];exact ⟨vz_wOf (q1f ha fx),vz_wOf (q1f hb2 fy),hb,hg⟩
 ·generalize sgZ x y=g at *;rw [hx,hy2];grind
end
end Go.Proofs.YtgnjhlnolihgcaaGreat
namespace Go.Proofs.YtgnjhlnolihgcaaGreat
open Go.RowKit
def Cf (w:World) (g:Nat) (n1:Bool) (A1:Option Addr) (m1 c1:Nat) (n2:Bool) (A2:Option Addr) (m2 c2:Nat):Prop:=
 w.cell? ⟨g,0,none⟩=some (.bool n1)∧w.cell? ⟨g,1,none⟩=some (.slice A1 m1 c1)∧w.cell? ⟨g,2,none⟩=some (.bool n2)∧w.cell? ⟨g,3,none⟩=some (.slice A2 m2 c2)
section
variable {w w':World} {g:Nat} {n1 n2:Bool} {A1 A2:Option Addr} {m1 c1 m2 c2:Nat}
theorem Cf.keep (h:Cf w g n1 A1 m1 c1 n2 A2 m2 c2) (hb:Below w.heap.size w w'):Cf w' g n1 A1 m1 c1 n2 A2 m2 c2:=keep4 hb h
theorem Cf.drew (h:Cf w g n1 A1 m1 c1 n2 A2 m2 c2):Cf w.drew g n1 A1 m1 c1 n2 A2 m2 c2:=h
theorem Cf.fresh (hg:g=w.heap.size) (n1:Bool) (A1:Option Addr) (m1 c1:Nat) (n2:Bool) (A2:Option Addr) (m2 c2:Nat) (t:TypeId) :
  Cf (w.alloc (.cells #[.bool n1,.slice A1 m1 c1,.bool n2,.slice A2 m2 c2] t)) g n1 A1 m1 c1 n2 A2 m2 c2:=by
 subst hg;exact ⟨by simp,by simp,by simp,by simp⟩
theorem Cf.setW {g':Nat} (h:Cf w g n1 A1 m1 c1 n2 A2 m2 c2) (hne:g≠g') (x y:Value):Cf ((w.setCell ⟨g',0,none⟩ x).setCell ⟨g',1,none⟩ y) g n1 A1 m1 c1 n2 A2 m2 c2:=
 ⟨(q0d hne x y).trans h.1,(q0d hne x y).trans h.2.1,(q0d hne x y).trans h.2.2.1,(q0d hne x y).trans h.2.2.2⟩
def Ff (w:World) (g:Nat):Prop:=w.frozen? ⟨g,0,none⟩=false∧w.frozen? ⟨g,1,none⟩=false∧w.frozen? ⟨g,2,none⟩=false∧w.frozen? ⟨g,3,none⟩=false
theorem Ff.keep (f:Ff w g) (h:Cf w g n1 A1 m1 c1 n2 A2 m2 c2) (hb:Below w.heap.size w w'):Ff w' g:=
 ⟨q0y hb h.1 f.1,q0y hb h.2.1 f.2.1,q0y hb h.2.2.1 f.2.2.1,q0y hb h.2.2.2 f.2.2.2⟩
theorem Ff.fresh (hg:g=w.heap.size) (cs:Array Value) (t:TypeId):Ff (w.alloc (.cells cs t)) g:=by
 subst hg;exact ⟨by simp,by simp,by simp,by simp⟩
theorem Ff.drew (f:Ff w g):Ff w.drew g:=f
def C1 (w:World) (g:Nat) (v:Value):Prop:=w.cell? ⟨g,0,none⟩=some v∧w.frozen? ⟨g,0,none⟩=false
theorem C1.keep {v:Value} (h:C1 w g v) (hb:Below w.heap.size w w'):C1 w' g v:=⟨q0b hb h.1,q0y hb h.1 h.2⟩
theorem C1.fresh (hg:g=w.heap.size) (v:Value) (t:TypeId):C1 (w.alloc (.cells #[v] t)) g v:=by
 subst hg;exact ⟨by simp,by simp⟩
end
theorem Ff.setW {w:World} {g g':Nat} (f:Ff w g) (x y:Value):Ff ((w.setCell ⟨g',0,none⟩ x).setCell ⟨g',1,none⟩ y) g:=by
 obtain ⟨h0,h1,h2,h3⟩:=f;exact ⟨by rw [World.frozen?_setCell,World.frozen?_setCell]; exact h0,by rw [World.frozen?_setCell,World.frozen?_setCell]; exact h1,by rw [World.frozen?_setCell,World.frozen?_setCell]; exact h2,by rw [World.frozen?_setCell,World.frozen?_setCell]; exact h3⟩
theorem C1.setW {w:World} {g g':Nat} {v:Value} (h:C1 w g v) (hne:g≠g') (x y:Value):C1 ((w.setCell ⟨g',0,none⟩ x).setCell ⟨g',1,none⟩ y) g v:=
 ⟨(q0d hne x y).trans h.1,by rw [World.frozen?_setCell,World.frozen?_setCell]; exact h.2⟩
theorem Cw.set1 {w:World} {g g':Nat} {n:Bool} {A:Option Addr} {m c:Nat} (h:Cw w g n A m c) (hne:g≠g') (x:Value):Cw (w.setCell ⟨g',0,none⟩ x) g n A m c:=
 ⟨(World.cell?_setCell_other _ _ _ _ (by intro e; exact hne (congrArg Addr.block e).symm)).trans h.1,(World.cell?_setCell_other _ _ _ _ (by intro e; exact hne (congrArg Addr.block e).symm)).trans h.2⟩
theorem Sl.set1' {w:World} {A:Option Addr} {l:List Nat} {c g:Nat} {k:IntKind} {z:Int} (h:Sl w A l c) (q:w.cell? ⟨g,0,none⟩=some (.int k z)) (hk:k≠.u32) (x:Value):Sl (w.setCell ⟨g,0,none⟩ x) A l c:=by
 refine ⟨fun hl=>?_,h.lim,h.le,h.len⟩;obtain ⟨b,o,e,hc⟩:=h.rd hl;refine ⟨b,o,e,fun i hi=>?_⟩;rw [World.cell?_setCell_other _ _ _ _ (fun he=>?_)]
 ·exact hc i hi
 ·have:=hc i hi;rw [← he,q] at this;injection this with e1
  injection e1 with e2
  exact hk e2
theorem Sl.setF {w:World} {A:Option Addr} {l:List Nat} {c g:Nat} {n1 n2:Bool} {A1 A2:Option Addr} {m1 c1 m2 c2:Nat} (h:Sl w A l c) (q:Cf w g n1 A1 m1 c1 n2 A2 m2 c2) (x y z u:Value) :
  Sl ((((w.setCell ⟨g,0,none⟩ x).setCell ⟨g,1,none⟩ y).setCell ⟨g,2,none⟩ z).setCell ⟨g,3,none⟩ u) A l c:=by
 have h2:∀ (i:Nat) (w:World) (v v':Value),w.cell? ⟨g,i,none⟩=some v→(∀ n,v≠.int .u32 n)→Sl w A l c→Sl (w.setCell ⟨g,i,none⟩ v') A l c:=fun i w v v' hq hv h=>h.set hq hv v';refine h2 3 _ (.slice A2 m2 c2) _ ?_ (by intro n e; cases e) (h2 2 _ (.bool n2) _ ?_ (by intro n e; cases e) (h2 1 _ (.slice A1 m1 c1) _ ?_ (by intro n e; cases e) (h2 0 _ (.bool n1) _ q.1 (by intro n e; cases e) h)))
 ·rw [World.cell?_setCell_other _ _ _ _ (by simp),World.cell?_setCell_other _ _ _ _ (by simp),World.cell?_setCell_other _ _ _ _ (by simp)]; exact q.2.2.2
 ·rw [World.cell?_setCell_other _ _ _ _ (by simp),World.cell?_setCell_other _ _ _ _ (by simp)]; exact q.2.2.1
 ·rw [World.cell?_setCell_other _ _ _ _ (by simp)]; exact q.2.1
theorem below_setF {B g:Nat} {a w:World} (h:Below B a w) (hg:B≤g) (x y z u:Value) :
  Below B a ((((w.setCell ⟨g,0,none⟩ x).setCell ⟨g,1,none⟩ y).setCell ⟨g,2,none⟩ z).setCell ⟨g,3,none⟩ u):=
 (((h.setCell (p:=⟨g,0,none⟩) hg x).setCell (p:=⟨g,1,none⟩) hg y).setCell (p:=⟨g,2,none⟩) hg z).setCell (p:=⟨g,3,none⟩) hg u
def FRes1 (r:(Bool × List Nat) × (Bool × List Nat)) (w:World):Ending→World→Prop:=fun e w'=>
 ∃ A c A' c',e=.returned (.agg #[.bool r.1.1,.slice A r.1.2.length c,.bool r.2.1,.slice A' r.2.2.length c'])∧Sl w' A r.1.2 c∧Sl w' A' r.2.2 c'∧Below w.heap.size w w'
def FRes (r:((Bool × List Nat) × (Bool × List Nat)) × Int) (w:World):Ending→World→Prop:=fun e w'=>
 ∃ A c A' c',e=.returned (.tuple #[.agg #[.bool r.1.1.1,.slice A r.1.1.2.length c,.bool r.1.2.1,.slice A' r.1.2.2.length c'],.int .i64 r.2])∧Sl w' A r.1.1.2 c∧Sl w' A' r.1.2.2 c'∧Below w.heap.size w w'
theorem fres1_store {r:(Bool × List Nat) × (Bool × List Nat)} {w w3:World} {g c c':Nat} {A A':Option Addr} {n1 n2:Bool} {A1 A2:Option Addr} {m1 c1 m2 c2:Nat} (hs:Sl w3 A r.1.2 c) (hs':Sl w3 A' r.2.2 c') (q:Cf w3 g n1 A1 m1 c1 n2 A2 m2 c2) (hb:Below w.heap.size w w3) (hg:w.heap.size≤g) (x y z u:Value) :
  FRes1 r w (.returned (.agg #[.bool r.1.1,.slice A r.1.2.length c,.bool r.2.1,.slice A' r.2.2.length c'])) ((((w3.setCell ⟨g,0,none⟩ x).setCell ⟨g,1,none⟩ y).setCell ⟨g,2,none⟩ z).setCell ⟨g,3,none⟩ u):=
 ⟨A,c,A',c',rfl,hs.setF q _ _ _ _,hs'.setF q _ _ _ _,below_setF hb hg _ _ _ _⟩
theorem FRes1.alloc {r:(Bool × List Nat) × (Bool × List Nat)} {w w':World} {e:Ending} (h:FRes1 r w e w') (o:Obj):FRes1 r w e (w'.alloc o):=by
 obtain ⟨A,c,A',c',rfl,h1,h2,hb⟩:=h;exact ⟨A,c,A',c',rfl,h1.alloc o,h2.alloc o,q0a hb (blw1 _ _)⟩
section
variable {w w':World} {g m1 c1 m2 c2:Nat} {n1 n2:Bool} {A1 A2:Option Addr} {x:Value} {o1 o2 o3:Obj}
theorem kF (h:Hid (Cf w g n1 A1 m1 c1 n2 A2 m2 c2)) (hb:Below w.heap.size w w'):Hid (Cf w' g n1 A1 m1 c1 n2 A2 m2 c2):=Cf.keep h.out hb
theorem kF1 (h:Hid (Cf w g n1 A1 m1 c1 n2 A2 m2 c2)) (hb:Below (w.alloc o1).heap.size (w.alloc o1) w'):Hid (Cf w' g n1 A1 m1 c1 n2 A2 m2 c2):=Cf.keep (Cf.keep h.out (blw1 _ _)) hb
theorem kF2 (h:Hid (Cf w g n1 A1 m1 c1 n2 A2 m2 c2)) (hb:Below (((w.alloc o1)).alloc o2).heap.size (((w.alloc o1)).alloc o2) w'):Hid (Cf w' g n1 A1 m1 c1 n2 A2 m2 c2):=Cf.keep (Cf.keep (Cf.keep h.out (blw1 _ _)) (blw1 _ _)) hb
theorem kC (h:Hid (C1 w g x)) (hb:Below w.heap.size w w'):Hid (C1 w' g x):=C1.keep h.out hb
theorem kFf (f:Hid (Ff w g)) (h:Hid (Cf w g n1 A1 m1 c1 n2 A2 m2 c2)) (hb:Below w.heap.size w w'):Hid (Ff w' g):=Ff.keep f.out h.out hb
theorem kFf1 (f:Hid (Ff w g)) (h:Hid (Cf w g n1 A1 m1 c1 n2 A2 m2 c2)) (hb:Below (w.alloc o1).heap.size (w.alloc o1) w'):Hid (Ff w' g):=Ff.keep (Ff.keep f.out h.out (blw1 _ _)) (Cf.keep h.out (blw1 _ _)) hb
theorem kFf2 (f:Hid (Ff w g)) (h:Hid (Cf w g n1 A1 m1 c1 n2 A2 m2 c2)) (hb:Below (((w.alloc o1)).alloc o2).heap.size (((w.alloc o1)).alloc o2) w'):Hid (Ff w' g):=Ff.keep (Ff.keep (Ff.keep f.out h.out (blw1 _ _)) (Cf.keep h.out (blw1 _ _)) (blw1 _ _)) (Cf.keep (Cf.keep h.out (blw1 _ _)) (blw1 _ _)) hb
theorem lF (h:Hid (Cf w g n1 A1 m1 c1 n2 A2 m2 c2)):g < w.heap.size:=lt_of_cell (a:=⟨g,0,none⟩) h.out.1
theorem lC (h:Hid (C1 w g x)):g < w.heap.size:=lt_of_cell (a:=⟨g,0,none⟩) h.out.1
end
end Go.Proofs.YtgnjhlnolihgcaaGreat
namespace Go.Proofs.YtgnjhlnolihgcaaGreat
def roundZ (x y:Int):Int:=if y < x.fmod y+x.fmod y∨(x.fmod y+x.fmod y=y∧(x.fdiv y).natAbs % 2=1) then x.fdiv y+1 else x.fdiv y
section
variable {x y:Int}
theorem dm_parts (hy:0 < y):0≤x.fmod y∧x.fmod y < y∧y * x.fdiv y+x.fmod y=x:=
 ⟨Int.fmod_nonneg_of_pos x hy,Int.fmod_lt_of_pos x hy,Int.mul_fdiv_add_fmod x y⟩
theorem up_fit (hy:0 < y) (fx:fitZ x) (hr:x.fmod y≠0):fitZ (x.fdiv y+1):=by
 obtain ⟨h1,h2,h3⟩:=dm_parts (x:=x) hy;refine q1f (b:=x) ?_ fx;generalize x.fdiv y=q at *;generalize x.fmod y=r at *;rcases (by omega:0≤q∨q < 0) with h | h
 ·have:2 * q≤y * q:=Int.mul_le_mul_of_nonneg_right (by omega) h;omega
 ·have h4:y * (q+1)≤1 * (q+1):=Int.mul_le_mul_of_nonpos_right (by omega) (by omega);rw [Int.mul_add,Int.mul_one,Int.one_mul] at h4;omega
theorem round_fit (hy:0 < y) (fx:fitZ x):fitZ (roundZ x y):=by
 obtain ⟨h1,h2,h3⟩:=dm_parts (x:=x) hy;unfold roundZ;split
 ·rename_i h
  exact up_fit hy fx (by omega)
 ·exact fit_fdiv fx
end
end Go.Proofs.YtgnjhlnolihgcaaGreat
namespace Go.Proofs.YtgnjhlnolihgcaaGreat
open Go.Lib
theorem fit_ten {z:Int} {k:Nat} (h:z.natAbs≤10 ^ k) (hk:k≤3000):fitZ z:=by
 obtain ⟨m,hm⟩:∃ m,m=400:=⟨_,rfl⟩;exact q1e (k:=m) (Nat.lt_of_le_of_lt h (ten_pow_lt hk hm)) (by omega)
def p10 (k:Nat):Bool × List Nat:=wOf ((10:Int) ^ k)
def rndS (x y:Int):Int:=roundZ (zv (redZ x y).1.1 (redZ x y).1.2) (zv (redZ x y).2.1 (redZ x y).2.2)
end Go.Proofs.YtgnjhlnolihgcaaGreat
namespace Go.Proofs.YtgnjhlnolihgcaaGreat
structure VFk (k:Nat) (n1:Bool) (l1:List Nat) (n2:Bool) (l2:List Nat) (x y:Int):Prop where
 vf:VF n1 l1 n2 l2 x y
 hx:x.natAbs < 4294967296 ^ k
 hy:y.natAbs < 4294967296 ^ k
section
variable {k j m:Nat} {n1 n2 n3 n4:Bool} {l1 l2 l3 l4:List Nat} {x y u v a b:Int}
theorem lt_up (h:a.natAbs < 4294967296 ^ k) (hk:k≤j):a.natAbs < 4294967296 ^ j:=Nat.lt_of_lt_of_le h (Nat.pow_le_pow_right (by omega) hk)
theorem q0l (h1:a.natAbs < 4294967296 ^ k) (h2:b.natAbs < 4294967296 ^ j):(a * b).natAbs < 4294967296 ^ (k+j):=by rw [Int.natAbs_mul]; exact mul_lt h1 h2
theorem sub_few (h1:a.natAbs < 4294967296 ^ k) (h2:b.natAbs < 4294967296 ^ k):(a - b).natAbs < 4294967296 ^ (k+1):=by
 have:=lt_sum h1 h2;omega
theorem fit_few (h:a.natAbs < 4294967296 ^ k) (hk:k≤4096):fitB a=true:=fitB_iff.2 (q1e h hk)
theorem sub_good (h1:VFk k n1 l1 n2 l2 x y) (h2:VFk j n3 l3 n4 l4 u v) (hk:k+j+1≤4096):subV x y u v=(redZ (x * v - u * y) (y * v),0):=by
 have e1:=q0l h1.hx h2.hy;have e2:(u * y).natAbs < 4294967296 ^ (k+j):=(by have:=q0l h2.hx h1.hy; rwa [Nat.add_comm] at this);unfold subV;rw [fit_few e1 (by omega),fit_few e2 (by omega),fit_few (sub_few e1 e2) hk,fit_few (q0l h1.hy h2.hy) (by omega)];rfl
theorem mul_good (h1:VFk k n1 l1 n2 l2 x y) (h2:VFk j n3 l3 n4 l4 u v) (hk:k+j≤4096):mulV x y u v=(redZ (x * u) (y * v),0):=by
 unfold mulV;rw [fit_few (q0l h1.hx h2.hx) hk,fit_few (q0l h1.hy h2.hy) hk];rfl
theorem div_good (h1:VFk k n1 l1 n2 l2 x y) (h2:VFk j n3 l3 n4 l4 u v) (hu:u≠0) (hk:k+j≤4096):divV x y u v=(redZ (x * v) (y * u),0):=by
 unfold divV;rw [if_neg hu,fit_few (q0l h1.hx h2.hy) hk,fit_few (q0l h1.hy h2.hx) hk];rfl
theorem red_few (hy:b≠0) (h1:a.natAbs < 4294967296 ^ k) (h2:b.natAbs < 4294967296 ^ k) (hk:k≤4096) :
  ∃ p q:Int,VFk k (redZ a b).1.1 (redZ a b).1.2 (redZ a b).2.1 (redZ a b).2.2 p q∧p * b=a * q:=by
 obtain ⟨p,q,h,e,hp,hq⟩:=red_vf (x:=a) hy (q1e h1 hk) (q1e h2 hk);exact ⟨p,q,⟨h,by omega,by omega⟩,e⟩
end
section
variable {n1 n2 n3 n4 n5 n6:Bool} {l1 l2 l3 l4 l5 l6:List Nat} {x1 y1 x2 y2 x3 y3:Int}
end
end Go.Proofs.YtgnjhlnolihgcaaGreat