/- What the proof of the statement leans on (part 28). -/
import Derived.Lib.LastIndexLaws
import Derived.Test.YtdihgdeciopfpaaGreatDoorQza

namespace Go.Proofs.YtdihgdeciopfpaaGreatDoor
open Go
structure MS where
 text:By
 cur:Int
 mode:Int
 mark:Int
 ring:List By
 hist:List By
 at_:Int
 draft:By
 last:Int
 from_:Int
 to_:Int
 query:By
 found:Int
 saved:By
 savedAt:Int
 was:Int
 lines:List By
 flags:List Bool
 bells:Int
def KP (t:MS):MS:=if t.mode=2/\t.cur.toNat=BX t.text t.cur.toNat/\jx t.text t.cur.toNat<t.cur.toNat then { t with cur:=(OX t.text t.cur 0 1:Nat) } else t
structure MI (B:Nat) (s:MS):Prop where
 text:s.text.length<=16384
 draft:s.draft.length<=16384
 saved:s.saved.length<=16384
 query:s.query.length<=100
 ring:∀x∈s.ring,x.length<=B
 ringn:s.ring.length<=10
 hist:∀x∈s.hist,x.length<=16384
 histn:s.hist.length<=100
 lines:∀x∈s.lines,x.length<=16384
 linesn:s.lines.length<=B
 flags:s.flags.length=s.lines.length
 at0:0<=s.at_
 at1:s.at_<=(s.hist.length:Nat)
 fnd0:0<=s.found
 fnd1:s.found<=100
 bell0:0<=s.bells
 bell1:s.bells<=B
def Kk (s:MS):Prop:=0<=s.cur/\s.cur<=(s.text.length:Nat)
theorem MI.of {B:Nat}{s t:MS}(k:MI B s) (h1:t.text.length<=16384) (h2:t.draft=s.draft) (h3:t.saved=s.saved) (h4:t.query=s.query) (h5:t.ring=s.ring) (h6:t.hist=s.hist) (h7:t.lines=s.lines) (h8:t.flags=s.flags) (h9:t.at_=s.at_) (h10:t.found=s.found) (h11:t.bells=s.bells):MI B t:=by
 obtain⟨text,cur,mode,mark,ring,hist,at_,draft,last,from_,to_,query,found,saved,savedAt,was,lines,flags,bells⟩:=t;simp only at h1 h2 h3 h4 h5 h6 h7 h8 h9 h10 h11;subst h2 h3 h4 h5 h6 h7 h8 h9 h10 h11;exact⟨h1,k.draft,k.saved,k.query,k.ring,k.ringn,k.hist,k.histn,k.lines,k.linesn,k.flags,k.at0,k.at1,k.fnd0,k.fnd1,k.bell0,k.bell1⟩
theorem C9 {a:Int}:∀(l:List Nat) (o:Nat),(∀k∈l,a<(k:Nat))->l.foldl (fun(o k:Nat)=>if (k:Int)<=a then k else o) o=o
 | [],_,_=>rfl
 |x::l,o,h=>by
  rw[List.foldl_cons,if_neg (by have:=h x List.mem_cons_self;omega)];exact C9 l o fun k hk=>h k (List.mem_cons_of_mem _ hk)
theorem vp:∀(n:Nat) (l:By) (a o c:Nat),c∈cD n l a->(cD n l a).foldl (fun(o k:Nat)=>if (k:Int)<=(c:Nat) then k else o) o=c
 | 0,_,_,_,_,h=>by simp[cD] at h
 |n+1,l,a,o,c,h=>by
  rw[cD] at h ⊢;split at h
  · simp at h
  · rename_i hl;have hr:=fu hl;rw[if_neg hl,List.foldl_cons]
    rcases List.mem_cons.1 h with rfl|h
    · rw[if_pos (by omega)];exact C9 _ _ fun k hk=>by have:=kK _ _ _ _ hk;omega
    · exact vp n _ _ _ c h
theorem Eg {s:By}{a:Nat}(h:IU s a):uj s a=a:=by
 unfold uj
 rcases h with h|h
 · have:=qU h;rw[if_neg (by omega)];exact vp _ _ _ _ _ h
 · rw[if_pos (by omega),h]
def Kj (s:MS):Prop:=∃c:Nat,s.cur=(c:Nat)/\IU s.text c
theorem Kj.ok {s:MS}(h:Kj s):Kk s:=by
 obtain⟨c,h1,h2⟩:=h;have:=LF h2;unfold Kk;omega
theorem MI.cur {B:Nat}{s:MS}(k:MI B s) (n:Int):MI B { s with cur:=n }:=k.of k.text rfl rfl rfl rfl rfl rfl rfl rfl rfl rfl
end Go.Proofs.YtdihgdeciopfpaaGreatDoor
