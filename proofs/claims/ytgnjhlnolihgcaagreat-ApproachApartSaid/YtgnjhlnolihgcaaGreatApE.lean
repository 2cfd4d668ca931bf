import Derived.Test.YtgnjhlnolihgcaaGreatMg18
namespace Go.Proofs.YtgnjhlnolihgcaaGreat
open Go.RowKit
def stS (a0 a1 a2:Option Addr):SG:=⟨0,10,a0,[0],1,a1,[0],1,a2,[0],1⟩
def stB (A a0 a1 a2:Option Addr):BG:=⟨[97],0,5,A,[stS a0 a1 a2],1⟩
def exT (F T a b:Int):TB:=⟨F,T,⟨a,b,0,0,0,0⟩,zV6,⟨5,7,0,0,0,0⟩,zV6⟩
section
variable (A a0 a1 a2:Option Addr)
theorem st_chk:chkE [stB A a0 a1 a2]=0:=by
 refine chkE_good (by show (1:Nat)≤12; decide) (fun b hb=>by rw [List.mem_singleton] at hb; subst hb; rfl) ⟨fun k hk=>?_,fun k hk=>?_⟩
 ·obtain rfl:k=0:=by simpa using hk
  refine ⟨rfl,by show (0:Int)≤0; decide,by show (0:Int)≤1152921504606846976; decide,by show (0:Int)≤5; decide,by show (5:Int)≤1125899906842624; decide,by show 0 < 1; decide,fun j hj=>?_,fun j hj=>by simp [stB] at hj⟩;obtain rfl:j=0:=by simpa [stB] using hj
  show segB (stS a0 a1 a2)=true
  simp [stS,segB,outB,listB]
 ·obtain rfl:k=0:=by simpa using hk
  rfl
theorem st_gr:grE [stB A a0 a1 a2]=false:=by rfl
theorem st_vl (x:Rat):vlQ [0] x=0:=by
 show chS (cfQ [0]) (chT x) 0+cfQ [0] 0 * chT x 0=0
 rw [show cfQ [0] 0=0 from rfl,Rat.zero_mul,Rat.add_zero];rfl
theorem st_plV (t:Int):plV (stS a0 a1 a2) t=zV6:=by
 have u:unS 0=(0,0,0):=(by kernel_rfl);show V6.mk (unS (vlQ [0] _)).1 (unS (vlQ [0] _)).2.1 (unS (vlQ [0] _)).1 (unS (vlQ [0] _)).2.1 (unS (vlQ [0] _)).1 (unS (vlQ [0] _)).2.1=_
 rw [st_vl,u];rfl
theorem st_ovW (f t:Int):ovW (stS a0 a1 a2) [0] f t=0:=by
 unfold ovW swI;have e:swZ [0] ([0]:List Int).length=0:=rfl;rw [e,Int.zero_mul,Rat.zero_divInt];rfl
theorem st_ovS (f t:Int):ovS (stS a0 a1 a2) f t=zV6:=by
 unfold ovS;rw [st_plV];have e0:=st_ovW a0 a1 a2 f t;rw [show (stS a0 a1 a2).l0=[0] from rfl,show (stS a0 a1 a2).l1=[0] from rfl,show (stS a0 a1 a2).l2=[0] from rfl,e0];rfl
theorem st_ov {f t:Int} (h0:0≤f) (h1:f≤t) (h2:t≤10):ovE [stB A a0 a1 a2] 0 f t=(zV6,0):=by
 unfold ovE;rw [if_pos (st_chk _ _ _ _),show getB [stB A a0 a1 a2] 0=some (stB A a0 a1 a2) from rfl];show (if t < f then (zV6,2) else if outT [stS a0 a1 a2] f t then (zV6,16) else ovR [stS a0 a1 a2] f t)=_
 have ho:outT [stS a0 a1 a2] f t=false:=by
  show (decide (f < 0) || decide (10 < t))=false
  rw [decide_eq_false (by omega),decide_eq_false (by omega)];rfl
 rw [if_neg (by omega),ho,if_neg (by simp)];unfold ovR ovF
 have hi:ovIn (stS a0 a1 a2) f t=true:=by
  show (decide ((0:Int)≤t) && decide (f≤10))=true
  rw [decide_eq_true (by omega),decide_eq_true (by omega)];rfl
 rw [hi,if_pos rfl,st_ovS];rfl
theorem st_pl {t:Int} (h0:0≤t) (h1:t≤10):plE [stB A a0 a1 a2] 0 t=(zV6,0):=by
 unfold plE lkE;rw [if_pos (st_chk _ _ _ _),show getB [stB A a0 a1 a2] 0=some (stB A a0 a1 a2) from rfl]
 have hs:segOf (stB A a0 a1 a2).ss t=some (stS a0 a1 a2):=by
  show List.find? (inS t) [stS a0 a1 a2]=_
  have hi:inS t (stS a0 a1 a2)=true:=by
   show (decide ((0:Int)≤t) && decide (t≤10))=true
   rw [decide_eq_true (by omega),decide_eq_true (by omega)];rfl
  simp [List.find?,hi]
 simp only [hs];rw [st_plV]
theorem st_gp {F T a b:Int} (h0:0≤F) (h1:F < T) (h2:T≤10) (h3:chkA [exT F T a b]=0):gpS [stB A a0 a1 a2] 0 (exT F T a b)=((gapZ ⟨a,b,0,0,0,0⟩ zV6,49),0):=by
 unfold gpS;rw [if_neg (by rw [h3]; simp)];have e1:ovE [stB A a0 a1 a2] 0 (exT F T a b).F (exT F T a b).T=(zV6,0):=st_ov A a0 a1 a2 h0 (Int.le_of_lt h1) h2;have e2:plE [stB A a0 a1 a2] 0 (exT F T a b).T=(zV6,0):=st_pl A a0 a1 a2 (t:=T) (by omega) h2;rw [e1,e2];rfl
theorem ex_chk {F T a b:Int} (h:F < T) (hab:a≤b) (ha : -1000≤a) (hb:b≤1000):okTb (exT F T a b)=true:=by
 unfold okTb exT
 have e1:chkV (⟨a,b,0,0,0,0⟩:V6)=true:=by
  show (decide (a≤b) && decide (-2305843009213693952≤a) && decide (b≤2305843009213693952) && chkI 0 0 && chkI 0 0)=true
  rw [decide_eq_true hab,decide_eq_true (by omega),decide_eq_true (by omega)];rfl
 show (chkV (⟨a,b,0,0,0,0⟩:V6) && (chkV zV6 && (chkV ⟨5,7,0,0,0,0⟩ && (chkV zV6 && decide (F < T)))))=true
 rw [e1,decide_eq_true h];rfl
theorem ex_one {F T a b:Int} (h:F < T) (hab:a≤b) (ha : -1000≤a) (hb:b≤1000):chkA [exT F T a b]=0:=by
 have e:=ex_chk h hab ha hb
 have e2:okLs [exT F T a b] [exT F T a b].length=true:=by
  show (okAt [exT F T a b] 0 && true)=true
  show ((okTb (exT F T a b) && (decide (0=0) || decide (F=T))) && true)=true
  rw [e];rfl
 unfold chkA;rw [if_neg (by simp),if_neg (by simp),if_pos e2]
theorem ex_lk:lkS [stB A a0 a1 a2] 0 [exT 0 10 5 7]=([(25,49)],0):=by
 have h:=st_gp A a0 a1 a2 (F:=0) (T:=10) (a:=5) (b:=7) (by omega) (by omega) (by omega) (ex_one (by omega) (by omega) (by omega) (by omega));unfold lkS;rw [h];rfl
theorem ex_sc (n:Int) (h0:0≤n) (h1:n≤8796093022208):scS [stB A a0 a1 a2] 0 [exT 0 10 5 7] n=((rnA (opS [(25,49)] n) 1).map (psOf [exT 0 10 5 7] [(25,49)] n),0):=by
 unfold scS paS;rw [if_neg (by rw [ex_one (by omega) (by omega) (by omega) (by omega)]; simp),if_neg (by omega),ex_lk];rfl
theorem dn25:dnZ 25=5:=by
 obtain ⟨h0,h1,h2⟩:=dn_q (w:=25) (by omega);have a:=sqr_le (x:=dnZ 25) (y:=5) (by omega) (by omega);have b:=sqr_lt (x:=5) (y:=dnZ 25+1) (by omega) (by omega);omega
theorem up49:upZ 49=7:=by
 obtain ⟨h0,h1,h2⟩:=dn_q (w:=49) (by omega);have a:=sqr_le (x:=dnZ 49) (y:=7) (by omega) (by omega);have b:=sqr_lt (x:=7) (y:=dnZ 49+1) (by omega) (by omega);have e:dnZ 49=7:=(by omega);unfold upZ;rw [e];rfl
theorem ex_ps (n:Int):psOf [exT 0 10 5 7] [(25,49)] n (0,0)=⟨0,0,0,10,5,7,decide (49≤n ^ 2)⟩:=by
 show PS.mk 0 0 0 10 (dnZ 25) (upZ 49) (decide (49≤n ^ 2))=_
 rw [dn25,up49]
theorem ex_sc4:scS [stB A a0 a1 a2] 0 [exT 0 10 5 7] 4=([],0):=by
 rw [ex_sc _ _ _ _ 4 (by omega) (by omega)];rfl
theorem ex_sc5:scS [stB A a0 a1 a2] 0 [exT 0 10 5 7] 5=([⟨0,0,0,10,5,7,false⟩],0):=by
 rw [ex_sc _ _ _ _ 5 (by omega) (by omega),show rnA (opS [(25,49)] 5) 1=[(0,0)] from rfl,List.map_cons,List.map_nil,ex_ps];rfl
theorem ex_sc7:scS [stB A a0 a1 a2] 0 [exT 0 10 5 7] 7=([⟨0,0,0,10,5,7,true⟩],0):=by
 rw [ex_sc _ _ _ _ 7 (by omega) (by omega),show rnA (opS [(25,49)] 7) 1=[(0,0)] from rfl,List.map_cons,List.map_nil,ex_ps];rfl
end
end Go.Proofs.YtgnjhlnolihgcaaGreat