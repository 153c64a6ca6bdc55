/- What the proof of the statement leans on (part 32). -/
import Derived.Lib.IndexBytes
import Derived.Lib.AtoiAll
import Derived.Test.YtdihgdeciopfpaaGreatDoorQze

namespace Go.Proofs.YtdihgdeciopfpaaGreatDoor
open Go Go.Lw
set_option maxRecDepth 20000
section
variable {a b:Int}{s:By}
theorem BR:∀(a r:By) (c:UInt8),c∉a->Lib.indexByte (a++c::r) c=(a.length:Nat)
 | [],r,c,_=>by simp[Lib.indexByte]
 |b::a,r,c,h=>by
  have h1:¬b=c:=fun q=>h (by rw[q];exact List.mem_cons_self ..)
  have h2:=BR a r c (fun q=>h (List.mem_cons_of_mem _ q))
  show (if (b ==c)=true then (0:Int) else if (Lib.indexByte (a++c::r) c == -1)=true then -1 else Lib.indexByte (a++c::r) c+1)=_
  rw[if_neg (by simpa using h1),h2,if_neg (by rw[beq_iff_eq];omega)];simp
theorem nM {c:UInt8}{a r:By}(h:c∉a):Lib.cut (a++c::r) [c]=(a,r,true):=by
 unfold Lib.cut;rw[Lib.index_one,BR a r c h,if_pos (by omega)];simp
def EB (w:By):Int:=match Lib.atoiAll w with|.ok v=>v|.syntax=>0|.range=>Lib.atoiSat w
theorem EA:∀n:Nat,n<=200->EB (Lib.itoa (n:Nat))=(n:Nat):=by decide +kernel
theorem D7:∀n:Nat,n<=200->(32:UInt8)∉Lib.itoa (n:Nat):=by decide +kernel
theorem oE (h:0<=a/\a<=200):EB (Lib.itoa a)=a/\(32:UInt8)∉Lib.itoa a:=by
 obtain⟨n,rfl⟩:∃n:Nat,a=n:=⟨a.toNat,by omega⟩
 exact⟨EA n (by omega),D7 n (by omega)⟩
def zh (s:By):Int×Int:=(EB (Lib.cut s [32]).1,EB (Lib.cut s [32]).2.1)
theorem uX (ha:0<=a/\a<=200) (hb:0<=b/\b<=200):zh (Lib.itoa a++32::Lib.itoa b)=(a,b):=by
 unfold zh;rw[nM (oE ha).2];dsimp only;rw[(oE ha).1,(oE hb).1]
def JL (a b:UInt8):UInt8:=UInt8.ofNat (IntKind.u8.wrap (16*Lib.indexByte tV a+Lib.indexByte tV b)).toNat
def Dy:By->By
 |a::b::r=>JL a b::Dy r
 |_=>[]
theorem Ga:∀n:Nat,n<256->JL (uf (n / 16)) (uf (n%16))=UInt8.ofNat n:=by decide +kernel
theorem E7 (l:By):Dy (l.flatMap ug)=l:=by
 induction l with
 |nil=>rfl
 |cons x r ih =>
  rw[List.flatMap_cons]
  show JL (uf (x.toNat / 16)) (uf (x.toNat%16))::Dy (r.flatMap ug)=_
  rw[Ga x.toNat x.toNat_lt,ih];simp
theorem vM:∀l:By,(Dy l).length<=l.length
 | []=>Nat.le_refl _
 | [_]=>Nat.zero_le _
 |a::b::r=>by
  have:=vM r;simp only[Dy,List.length_cons];omega
def cZ (s:By):By:=if s.drop (s.length-1)=[10] then s.take (s.length-1) else s
theorem qE (a:By):cZ (a++[10])=a:=by
 unfold cZ;rw[show (a++[(10:UInt8)]).length-1=a.length by simp];simp
theorem nY (s:By):(cZ s).length<=s.length:=by
 unfold cZ;split
 · rw[List.length_take];omega
 · exact Nat.le_refl _
abbrev FE:By:=[111,117,116]
abbrev oW:By:=[115,105,122,101]
abbrev vw:By:=[99,97,115,116]
def qe (s:By):Ev:=if (Lib.cut (cZ s) [32]).1=FE then (1,Dy (Lib.cut (cZ s) [32]).2.1,0,0) else if (Lib.cut (cZ s) [32]).1=oW then (2,[],(zh (Lib.cut (cZ s) [32]).2.1).1,(zh (Lib.cut (cZ s) [32]).2.1).2) else jc
theorem Ik (t:By) (b c:Int):qe (cJ (1,t,b,c))=(1,t,0,0):=by
 have hl:cJ (1,t,b,c)=(FE++32::t.flatMap ug)++[10]:=by unfold cJ;rw[if_pos rfl];rfl
 unfold qe;rw[hl,qE,nM (by decide),if_pos rfl,E7]
theorem Gu {c:Int}(h:2<=b/\b<=100/\8<=c/\c<=200):qe (cJ (2,[],b,c))=(2,[],b,c):=by
 have hl:cJ (2,[],b,c)=(oW++32::(Lib.itoa b++32::Lib.itoa c))++[10]:=by
  unfold cJ;rw[if_neg (show ¬(2:Int)=1 by decide),if_pos rfl];simp
 have hw:¬oW=FE:=by decide
 unfold qe;rw[hl,qE,nM (by decide),if_neg hw,if_pos rfl,uX (by omega) (by omega)]
theorem Gv {e:Ev}(hm:iB e=true):qe (cJ e)=e:=by
 obtain⟨a,s,b,c⟩:=e
 by_cases h1:a=1
 · subst h1;have hm:(decide (s≠[]) && decide (b=0) && decide (c=0))=true:=hm;simp only[Bool.and_eq_true,decide_eq_true_eq] at hm;obtain⟨⟨-,rfl⟩,rfl⟩:=hm;exact Ik s 0 0
 · by_cases h2:a=2
   · subst h2;have hm:(decide (s=[]) && eT b c)=true:=hm;rw[Bool.and_eq_true] at hm;obtain rfl:=of_decide_eq_true hm.1;exact Gu (of_decide_eq_true hm.2)
   · have hm:(if a=1 then decide (s≠[]) && decide (b=0) && decide (c=0) else if a=2 then decide (s=[]) && eT b c else decide ((a,s,b,c)=jc))=true:=hm;rw[if_neg h1,if_neg h2] at hm;rw[of_decide_eq_true hm]
     decide +kernel
def AZ (s:By):Option Ev:=if iB (qe s)=true/\cJ (qe s)=s then some (qe s) else none
theorem nB {e:Ev}:AZ s=some e↔iB e=true/\cJ e=s:=by
 constructor
 · intro h;unfold AZ at h;split at h
   · rename_i q;cases h;exact q
   · cases h
 · rintro⟨h1,rfl⟩;unfold AZ;rw[Gv h1,if_pos ⟨h1,rfl⟩]
theorem FQ (h:∀e,iB e=true->cJ e≠s):AZ s=none:=by
 cases q:AZ s with
 |none=>rfl
 |some e=>have:=nB.1 q;exact absurd this.2 (h e this.1)
abbrev zT (s:By):Int×Int:=zh (Lib.cut (cZ s) [32]).2.1
def A2 (s:By):Option (Int×Int):=if (Lib.cut (cZ s) [32]).1=vw/\eT (zT s).1 (zT s).2=true/\ia (zT s).1 (zT s).2 []=s then some (zT s) else none
theorem Ih (hm:eT a b=true):(Lib.cut (cZ (ia a b [])) [32]).1=vw/\zT (ia a b [])=(a,b):=by
 have h4:=of_decide_eq_true hm;unfold zT ia;rw[List.flatMap_nil,List.append_nil,qE,show ([99,97,115,116,32]:By)++Lib.itoa a++[32]++Lib.itoa b=vw++32::(Lib.itoa a++32::Lib.itoa b) by simp,nM (by decide)];dsimp only;exact⟨rfl,uX (by omega) (by omega)⟩
theorem zU {p:Int×Int}:A2 s=some p↔eT p.1 p.2=true/\ia p.1 p.2 []=s:=by
 constructor
 · intro h;unfold A2 at h;split at h
   · rename_i q;cases h;exact q.2
   · cases h
 · rintro⟨h1,rfl⟩;obtain⟨h2,h3⟩:=Ih h1;unfold A2;rw[h3,if_pos ⟨h2,h1,rfl⟩]
theorem Ge (h:∀a b,eT a b=true->ia a b []≠s):A2 s=none:=by
 cases q:A2 s with
 |none=>rfl
 |some p=>have:=zU.1 q;exact absurd this.2 (h _ _ this.1)
def cw:By->List By
 | []=>[]
 |x::r=>if x=10 then [10]::cw r else match cw r with| []=>[[x]] |l::t=>(x::l)::t
theorem lI:∀(a:By) (x:UInt8) (r:By),(∀y∈a,y≠10)->(x=10\/r=[])->cw (a++x::r)=(a++[x])::cw r
 | [],x,r,_,h=>by
  by_cases hx:x=10
  · subst hx;rfl
  · obtain rfl:=h.resolve_left hx
    show (if x=10 then _ else _)=_
    rw[if_neg hx];rfl
 |y::a,x,r,ha,h=>by
  have ih:=lI a x r (fun z hz=>ha z (List.mem_cons_of_mem _ hz)) h
  show (if y=10 then [10]::cw (a++x::r) else match cw (a++x::r) with| []=>[[y]] |l::t=>(y::l)::t)=_
  rw[if_neg (ha y (List.mem_cons_self ..)),ih];rfl
abbrev GS:=(Int×Int)×List Ev×Nat×Int
def qd (p:Int×Int) (n:Nat) (xs:List Ev):List By->GS
 | []=>(p,xs,0,0)
 |l::t=>match AZ l with|none=>((0,0),[],n,10)|some e=>qd p (n+1) (xs++[e]) t
theorem sP {p:Int×Int}{n:Nat}{xs:List Ev}{x:By}{ls:List By}:qd p n xs (x::ls)=match AZ x with|none=>((0,0),[],n,10)|some e=>qd p (n+1) (xs++[e]) ls:=rfl
def ey (s:By):GS:=match cw s with
 | []=>((0,0),[],1,10)
 |l::t=>match A2 l with|none=>((0,0),[],1,10)|some p=>qd p 2 [] t
theorem zS:∀(s:By) (c:UInt8),(Lib.indexByte s c= -1/\c∉s)\/∃a r,s=a++c::r/\c∉a/\Lib.indexByte s c=(a.length:Nat)
 | [],c=>.inl ⟨rfl,by simp⟩
 |b::s,c=>by
  by_cases hb:b=c
  · subst hb;exact .inr ⟨[],s,rfl,by simp,by simp[Lib.indexByte]⟩
  · rcases zS s c with ⟨h,hn⟩|⟨a,r,rfl,hn,_⟩
    · refine .inl ⟨by unfold Lib.indexByte;rw[if_neg (by simpa using hb),h];rfl,fun q=>?_⟩
      rcases List.mem_cons.1 q with q|q
      · exact hb q.symm
      · exact hn q
    · have hn':c∉b::a:=fun q=>by
       rcases List.mem_cons.1 q with q|q
       · exact hb q.symm
       · exact hn q
      exact .inr ⟨b::a,r,rfl,hn',BR (b::a) r c hn'⟩
theorem BM {t:By}(h:t≠[]) (hn:(10:UInt8)∉t):cw t=t::cw []:=by
 obtain⟨a,x,rfl⟩:∃a x,t=a++[x]:=⟨t.dropLast,t.getLast h,(List.dropLast_concat_getLast h).symm⟩
 exact lI a x [] (fun y hy q=>hn (by rw[<-q];exact List.mem_append_left _ hy)) (.inr rfl)
theorem D2 {a r:By}(hn:(10:UInt8)∉a):cw (a++10::r)=(a++[10])::cw r:=lI a 10 r (fun y hy q=>hn (by rw[<-q];exact hy)) (.inl rfl)
end
end Go.Proofs.YtdihgdeciopfpaaGreatDoor
