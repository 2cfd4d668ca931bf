import Derived.Test.YtcpofeehpijbcaaGreatDoorRf5
namespace Go.Proofs.YtcpofeehpijbcaaGreatDoor
open Go.RowKit Go.Lib Go.Shelf
attribute [local go_sem ↓] Go.wp_at_zero Go.wp_at_succ
def resL:List (List UInt8):=[[83,73,77,80,76,69],[88,84,69,78,83,73,79,78],[66,73,84,80,73,88],[78,65,88,73,83],[78,65,88,73,83,49],[78,65,88,73,83,50],[78,65,88,73,83,51],[80,67,79,85,78,84],[71,67,79,85,78,84],[68,65,84,65,83,85,77],[67,72,69,67,75,83,85,77]]
def resB (k:List UInt8):Bool:=resL.contains k
def fitK (b x:Int):Bool:=if b=8 then decide (0≤x) && decide (x≤255) else if b=16 then decide (-32768≤x) && decide (x < 32768) else if b=32 then decide (-2147483648≤x) && decide (x < 2147483648) else b == 64
def elB (k:Int):Bool:=decide (1≤k) && decide (k≤10000)
def prodL (l:List Int):Int:=l.foldr (· * ·) 1
def okSh (l:List Int):Bool:=l.all elB && decide (l.length≤3) && decide (prodL l≤10000)
def szR (l:List Int):Int:=if l=[] then 0 else if okSh l then prodL l else -1
end Go.Proofs.YtcpofeehpijbcaaGreatDoor