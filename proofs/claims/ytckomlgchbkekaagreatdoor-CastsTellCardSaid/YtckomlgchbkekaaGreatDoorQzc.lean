/- What the proof of the statement leans on (part 29). -/
import Derived.Lib.LastIndexLaws
import Derived.Test.YtckomlgchbkekaaGreatDoorQzb

namespace Go.Proofs.YtckomlgchbkekaaGreatDoor
open Go
structure MS where
 text:By
 cur:Int
 mode:Int
 mark:Int
 ring:List By
 hist:List By
 at_:Int
 draft:By
 last:Int
 from_:Int
 to_:Int
 query:By
 found:Int
 saved:By
 savedAt:Int
 was:Int
 lines:List By
 flags:List Bool
 bells:Int
structure MI (B:Nat) (s:MS):Prop where
 text:s.text.length<=16384
 draft:s.draft.length<=16384
 saved:s.saved.length<=16384
 query:s.query.length<=100
 ring:∀x∈s.ring,x.length<=B
 ringn:s.ring.length<=10
 hist:∀x∈s.hist,x.length<=16384
 histn:s.hist.length<=100
 lines:∀x∈s.lines,x.length<=16384
 linesn:s.lines.length<=B
 flags:s.flags.length=s.lines.length
 at0:0<=s.at_
 at1:s.at_<=(s.hist.length:Nat)
 fnd0:0<=s.found
 fnd1:s.found<=100
 bell0:0<=s.bells
 bell1:s.bells<=B
theorem DV {a:Int}:∀(l:List Nat) (o:Nat),(∀k∈l,a<(k:Nat))->l.foldl (fun(o k:Nat)=>if (k:Int)<=a then k else o) o=o
 | [],_,_=>rfl
 |x::l,o,h=>by
  rw[List.foldl_cons,if_neg (by have:=h x List.mem_cons_self;omega)];exact DV l o fun k hk=>h k (List.mem_cons_of_mem _ hk)
theorem wo:∀(n:Nat) (l:By) (a o c:Nat),c∈cj n l a->(cj n l a).foldl (fun(o k:Nat)=>if (k:Int)<=(c:Nat) then k else o) o=c
 | 0,_,_,_,_,h=>by simp[cj] at h
 |n+1,l,a,o,c,h=>by
  rw[cj] at h ⊢;split at h
  · simp at h
  · rename_i hl;have hr:=lD hl;rw[if_neg hl,List.foldl_cons]
    rcases List.mem_cons.1 h with rfl|h
    · rw[if_pos (by omega)];exact DV _ _ fun k hk=>by have:=lA _ _ _ _ hk;omega
    · exact wo n _ _ _ c h
theorem E6 {s:By}{a:Nat}(h:Of s a):A4 s a=a:=by
 unfold A4
 rcases h with h|h
 · have:=B7 h;rw[if_neg (by omega)];exact wo _ _ _ _ _ h
 · rw[if_pos (by omega),h]
end Go.Proofs.YtckomlgchbkekaaGreatDoor
