/- What the proof of the statement leans on (part 26). -/
import Derived.Shelf.Small.Utf8
import Derived.Shelf.Small.Strs
import Derived.Shelf.Small.Wraps
import Derived.Shelf.Strconv.Itoa0
import Derived.Shelf.Strconv.Itoa1
import Derived.Shelf.LaysM
import Derived.Shelf.Strconv.Itoa2
import Derived.Shelf.Strconv.Itoa3
import Derived.Shelf.Strconv.Itoa4
import Derived.Shelf.Strconv.ParseIntEmpty
import Derived.Shelf.Strconv.Clone
import Derived.Shelf.Strconv.SyntaxError
import Derived.Shelf.LaysC
import Derived.Shelf.Strconv.ToError
import Derived.Shelf.Strconv.Lower
import Derived.Shelf.Strconv.ParseUint10
import Derived.Shelf.Strconv.ParseUint10Empty
import Derived.Shelf.Strconv.ParseUint10Any
import Derived.Shelf.Strconv.ParseInt10
import Derived.Shelf.Strconv.RangeError
import Derived.Shelf.Strconv.ToErrorRange
import Derived.Shelf.Strconv.ParseUintEmpty
import Derived.Shelf.Strconv.ParseUint10b64
import Derived.Shelf.Strconv.ParseUint10b32
import Derived.Shelf.Strconv.ParseUint10b16
import Derived.Shelf.Strconv.ParseUint10b8
import Derived.Shelf.Strconv.ParseUint10At
import Derived.Shelf.Strconv.ParseInt10At64
import Derived.Shelf.Strconv.ParseInt10At32
import Derived.Shelf.Strconv.ParseInt10At16
import Derived.Shelf.Strconv.ParseInt10At8
import Derived.Shelf.Strconv.ParseInt10All
import Derived.Shelf.Strconv.ParseIntPublic10
import Derived.Shelf.Strconv.ErrVarParseInt
import Derived.Shelf.Strings.Search1
import Derived.Shelf.Strings.Search2
import Derived.Shelf.Strings.Search3
import Derived.Shelf.Strings.Shaped
import Derived.Shelf.Strings.Prefix
import Derived.Shelf.Strings.Runes
import Derived.Shelf.Strings.AsciiSet
import Derived.Shelf.Unicode.DecodeSlow
import Derived.Shelf.Unicode.DecodeAny
import Derived.Test.YtdgckfkoihcmjaaGreatDoorProg
import Derived.Below
import Derived.Test.YtdgckfkoihcmjaaGreatDoorQy

namespace Go.Proofs.YtdgckfkoihcmjaaGreatDoor
open Go.Proofs.Tryz
open Go Go.Lw
set_option maxRecDepth 20000 set_option maxHeartbeats 4000000
section
variable {h h' hb:aj}{x:Tr}{O O':Nat->Prop}{v ev nv:Value}{l:List Tr}{i rb B m d:Nat}{env:List Bd}{t:By}
def uU (s:By):Bool:=match s with| []=>false|c::_=>decide (c=46)
theorem zi (s:By):av Tryz.prog 157 #[.string (bs s),.string (bs [46])] h (bq fun r h'=>r=packed [.string (bs (if uU s then s.drop 1 else s)),.bool (uU s)]/\h'=h):=by
 have k:av Tryz.prog 157 #[.string (bs s),.string (bs [46])] h _:=av.sO fun w=>Tryz.strings_CutPrefix (bs s) (bs [46]) w
 refine k.ret fun v h' ⟨h1,h2⟩=>⟨?_,h2⟩
 rw[h1]
 have e:Lib.hasPrefix (bs s).data.toList (bs [46]).data.toList=uU s:=by
  rw[ig,ig];unfold Lib.hasPrefix uU;cases s with
  |nil=>rfl
  |cons c r=>simp only[List.isPrefixOf,Bool.and_true];rw[Bool.eq_iff_iff];simp only[beq_iff_eq,decide_eq_true_iff];exact eq_comm
 rw[e];unfold Lib.trimPrefix;rw[e,ig,ig];rfl
def jR (s:By) (a b:UInt8):Bool:=match s with| []=>false|c::_=>decide (c=a) ||decide (c=b)
theorem Hq (s:By) (ok:Bool):l7 s ok=if (ok && jR s 101 69)=true then (if jR (s.drop 1) 43 45=true then eo ((s.drop 1).drop 1) && decide (cx ((s.drop 1).drop 1)=[]) else eo (s.drop 1) && decide (cx (s.drop 1)=[])) else (ok && decide (s=[])):=by
 cases s with
 |nil=>simp[l7,jR]
 |cons c r =>
  unfold l7 jR;simp only[Bool.and_eq_true,Bool.or_eq_true,decide_eq_true_eq,List.drop_succ_cons,List.drop_zero]
  by_cases h:ok=true/\(c=101\/c=69)
  · rw[if_pos h,if_pos h];cases r with
    |nil=>rfl
    |cons d r=>simp only[Bool.or_eq_true,decide_eq_true_eq,List.drop_succ_cons,List.drop_zero]
  · rw[if_neg h,if_neg h];simp
theorem GH (s:By):Cv s=if (eo s && uU (cx s))=true then l7 (cx ((cx s).drop 1)) (eo ((cx s).drop 1)) else l7 (cx s) (eo s):=by
 unfold Cv;cases hd:cx s with
 |nil=>simp[uU,l7]
 |cons c r =>
  simp only[uU,Bool.and_eq_true,decide_eq_true_eq,List.drop_succ_cons,List.drop_zero]
theorem ne_nil {s:By}(h:¬bs s=(⟨#[]⟩:ByteArray)):∃c r,s=c::r:=by
 cases s with
 |nil=>exact absurd rfl h
 |cons c r=>exact⟨c,r,rfl⟩
theorem eq_nil {s:By}(h:bs s=(⟨#[]⟩:ByteArray)):s=[]:=aI (m:=[]) h
theorem fA (c:UInt8) (n:UInt8):decide ((c.toNat:Int)=(n.toNat:Int))=decide (c=n):=LI c n
theorem wk (s:By):av Tryz.prog 124 #[.string (bs s)] h (bq fun r h'=>r= .bool (Cv s)/\aq h h'):=by
 rw[GH];refine bP ?_;refine af ?_;refine xo rfl (aF rfl (iT s)) ?_;rintro _ h1 ⟨rfl,e1⟩;refine af ?_;refine xo rfl (aF rfl (zi (cx s))) ?_;rintro _ h2 ⟨rfl,hh2⟩;subst hh2
 iterate 5 refine aZ ?_
 refine cV ?_;refine aR ?_;refine dW [(19,.bool (eo s && uU (cx s)))] rfl ?_ ?_
 · refine af ?_;refine b9 17 (fun a=>?_) (fun a=>?_)
   · refine af ?_;exact aA rfl ⟨ai rfl (by rw[a];rfl),sb rfl⟩
   · refine af ?_;exact aA rfl ⟨ai rfl (by rw[a];rfl),sb rfl⟩
 · have fin:∀(s1:By) (ok1:Bool) (h':aj) (ρ':Env),Sub [(0,.string (bs s1)),(3,.bool ok1)] ρ'->aq h h'->(if (eo s && uU (cx s))=true then l7 (cx ((cx s).drop 1)) (eo ((cx s).drop 1)) else l7 (cx s) (eo s))=l7 s1 ok1->G Tryz.prog 124 f124 [.code [1,1,1]] ρ' h' (bq fun r h'=>r= .bool (if (eo s && uU (cx s))=true then l7 (cx ((cx s).drop 1)) (eo ((cx s).drop 1)) else l7 (cx s) (eo s))/\aq h h'):=by
    rintro s1 ok1 h3 ρ' hsub e3 hnum;rw[hnum,Hq];have hbz:=aL s1;refine G.sub (ρ':=[(0,.string (bs s1)),(3,.bool ok1)]) hsub ?_
    iterate 2 refine aR ?_
    refine dW [(39,.bool (ok1 && jR s1 101 69))] rfl ?_ ?_
    · refine af ?_;refine b9 26 (fun a=>?_) (fun a=>?_)
      · rw[a,Bool.true_and];refine af ?_;refine b9 30 (fun b=>?_) (fun b=>?_)
        · obtain⟨c,r,rfl⟩:=ne_nil (s:=s1) (by simpa using b);refine af ?_;refine xp rfl (sG rfl rfl 0 rfl (eJ (l:=c::r) rfl)) ?_;refine af ?_;refine b9 34 (fun d=>?_) (fun d=>?_)
          · refine af ?_;exact aA rfl ⟨ai rfl (by show _=(decide (c=101) ||decide (c=69));rw[<-fA c 101,<-fA c 69,show (((101:UInt8).toNat:Nat):Int)=101 from rfl,d];rfl),sb rfl⟩
          · refine af ?_;refine xp rfl (sG rfl rfl 0 rfl (eJ (l:=c::r) rfl)) ?_;refine af ?_;exact aA rfl ⟨ai rfl (by show _=(decide (c=101) ||decide (c=69));rw[<-fA c 101,<-fA c 69,show (((101:UInt8).toNat:Nat):Int)=101 from rfl,d];rfl),sb rfl⟩
        · have hb:s1=[]:=eq_nil (by simpa using b);refine af ?_;exact aA rfl ⟨ai rfl (by rw[hb];rfl),sb rfl⟩
      · rw[a,Bool.false_and];refine af ?_;exact aA rfl ⟨ai rfl (rfl),sb rfl⟩
    · refine fF (fun hq=>?_) (fun hq=>?_)
      · rw[if_pos hq]
        have hne:1<=s1.length:=by
         cases s1 with
         |nil=>simp[jR] at hq
         |cons c r=>simp
        refine af ?_;refine xp rfl (ay.ct underlying9 rfl rfl 1 rfl (by omega)) ?_;rw[eI];have hbz2:=aL (s1.drop 1);refine aZ ?_;refine cV ?_
        iterate 2 refine aR ?_
        refine dW [(53,.bool (jR (s1.drop 1) 43 45))] rfl ?_ ?_
        · refine af ?_;refine b9 44 (fun b=>?_) (fun b=>?_)
          · obtain⟨c,r,hcr⟩:=ne_nil (s:=s1.drop 1) (by simpa using b);rw[hcr];refine af ?_;refine xp rfl (sG rfl rfl 0 rfl (eJ (l:=c::r) rfl)) ?_;refine af ?_;refine b9 48 (fun d=>?_) (fun d=>?_)
            · refine af ?_;exact aA rfl ⟨ai rfl (by show _=(decide (c=43) ||decide (c=45));rw[<-fA c 43,<-fA c 45,show (((43:UInt8).toNat:Nat):Int)=43 from rfl,d];rfl),sb rfl⟩
            · refine af ?_;refine xp rfl (sG rfl rfl 0 rfl (eJ (l:=c::r) rfl)) ?_;refine af ?_;exact aA rfl ⟨ai rfl (by show _=(decide (c=43) ||decide (c=45));rw[<-fA c 43,<-fA c 45,show (((43:UInt8).toNat:Nat):Int)=43 from rfl,d];rfl),sb rfl⟩
          · have hb:s1.drop 1=[]:=eq_nil (by simpa using b);refine af ?_;exact aA rfl ⟨ai rfl (by rw[hb];rfl),sb rfl⟩
        · refine fF (fun hg=>?_) (fun hg=>?_)
          · rw[if_pos hg]
            have hne2:1<=(s1.drop 1).length:=by
             cases hs:s1.drop 1 with
             |nil=>rw[hs] at hg;simp[jR] at hg
             |cons c r=>simp
            refine af ?_;refine xp rfl (ay.ct underlying9 rfl rfl 1 rfl (by omega)) ?_;rw[eI];refine af ?_;refine xo rfl (aF rfl (iT ((s1.drop 1).drop 1))) ?_;rintro _ h4 ⟨rfl,e4⟩
            iterate 5 refine aZ ?_
            refine cV ?_;refine aR ?_;refine dW [(2,.bool (eo ((s1.drop 1).drop 1) && decide (cx ((s1.drop 1).drop 1)=[])))] rfl ?_ ?_
            · refine af ?_;refine b9 62 (fun b=>?_) (fun b=>?_)
              · refine af ?_;exact aA rfl ⟨ai rfl (by rw[b];exact kC _),sb rfl⟩
              · refine af ?_;exact aA rfl ⟨ai rfl (by rw[b];rfl),sb rfl⟩
            · refine bh ?_;exact⟨_,rfl,rfl,e3.trans e4⟩
          · rw[if_neg (by rw[hg];decide)];refine af ?_;refine xo rfl (aF rfl (iT (s1.drop 1))) ?_;rintro _ h4 ⟨rfl,e4⟩
            iterate 5 refine aZ ?_
            refine cV ?_;refine aR ?_;refine dW [(2,.bool (eo (s1.drop 1) && decide (cx (s1.drop 1)=[])))] rfl ?_ ?_
            · refine af ?_;refine b9 62 (fun b=>?_) (fun b=>?_)
              · refine af ?_;exact aA rfl ⟨ai rfl (by rw[b];exact kC _),sb rfl⟩
              · refine af ?_;exact aA rfl ⟨ai rfl (by rw[b];rfl),sb rfl⟩
            · refine bh ?_;exact⟨_,rfl,rfl,e3.trans e4⟩
      · rw[if_neg (by rw[hq];decide)]
        iterate 2 refine aR ?_
        refine dW [(2,.bool (ok1 && decide (s1=[])))] rfl ?_ ?_
        · refine af ?_;refine b9 62 (fun b=>?_) (fun b=>?_)
          · refine af ?_;exact aA rfl ⟨ai rfl (by rw[b];exact kC _),sb rfl⟩
          · refine af ?_;exact aA rfl ⟨ai rfl (by rw[b];rfl),sb rfl⟩
        · refine bh ?_;exact⟨_,rfl,rfl,e3⟩
   refine fF (fun hp=>?_) (fun hp=>?_)
   · have hp2:uU (cx s)=true:=by rw[Bool.and_eq_true] at hp;exact hp.2
     rw[if_pos hp2];refine af ?_;refine xo rfl (aF rfl (iT ((cx s).drop 1))) ?_;rintro _ h4 ⟨rfl,e4⟩
     iterate 5 refine aZ ?_
     refine cV ?_;exact fin _ _ _ _ (by exact sb rfl) (e1.trans e4) (if_pos hp)
   · refine aR ?_;exact fin _ _ _ _ (by exact sb rfl) e1 (if_neg (by rw[hp];decide))
structure Iq (h:aj):Prop where
 lx:BW h
 esc:qz h
 una:∃v,cellAt h ⟨2,0,none⟩=some v/\aY nG h (fun _=>False) v wF
 bin:∃v,cellAt h ⟨3,0,none⟩=some v/\aY nG h (fun _=>False) v dB
theorem Iq.ah {h h':aj}(k:Iq h) (e:aq h h'):Iq h':=by
 obtain⟨h1,h2,⟨v,h3,h4⟩,w,h5,h6⟩:=k;exact⟨h1.ah e,h2.ah e,⟨v,e.cell (fun k=>k) h3,h4.mv (Mv.ah e)⟩,⟨w,e.cell (fun k=>k) h5,h6.mv (Mv.ah e)⟩⟩
theorem vQ (c:UInt8):av Tryz.prog 158 #[.int .u8 (c.toNat:Nat)] h (bq fun r h'=>r= .bool (isLet c)/\h'=h):=by
 rw[EU];refine bP ?_;refine aR ?_;refine de ?_;refine aZ ?_;refine cV ?_;refine aR ?_;refine dW [(2,.bool (decide ((97<=c.toNat/\c.toNat<=122)\/(65<=c.toNat/\c.toNat<=90)\/c.toNat=95)))] rfl ?_ ?_
 · refine af ?_;refine b9 5 (fun a=>?_) (fun a=>?_)
   · have a:=of_decide_eq_true a;refine af ?_;refine b9 9 (fun b=>?_) (fun b=>?_)
     · have b:=of_decide_eq_true b;refine af ?_;exact aA rfl ⟨ai rfl (by rw[decide_eq_true (by omega)]),sb rfl⟩
     · have b:=of_decide_eq_false b;refine af ?_;refine b9 12 (fun d=>?_) (fun d=>?_)
       · have d:=of_decide_eq_true d;refine af ?_;refine b9 17 (fun e=>?_) (fun e=>?_)
         · have e:=of_decide_eq_true e;refine af ?_;exact aA rfl ⟨ai rfl (by rw[decide_eq_true (by omega)]),sb rfl⟩
         · have e:=of_decide_eq_false e;refine af ?_;exact aA rfl ⟨ai rfl (by rw[decide_eq_decide];omega),sb rfl⟩
       · have d:=of_decide_eq_false d
         iterate 2 refine so ?_
         iterate 7 refine aZ ?_
         exact aA rfl ⟨ai rfl (by rw[decide_eq_decide];omega),sb rfl⟩
   · have a:=of_decide_eq_false a
     iterate 2 refine so ?_
     iterate 5 refine aZ ?_
     refine dD (d:=12) rfl (fun d=>?_) (fun d=>?_)
     · have d:=of_decide_eq_true d;refine af ?_;refine b9 17 (fun e=>?_) (fun e=>?_)
       · have e:=of_decide_eq_true e;refine af ?_;exact aA rfl ⟨ai rfl (by rw[decide_eq_true (by omega)]),sb rfl⟩
       · have e:=of_decide_eq_false e;refine af ?_;exact aA rfl ⟨ai rfl (by rw[decide_eq_decide];omega),sb rfl⟩
     · have d:=of_decide_eq_false d;refine af ?_;exact aA rfl ⟨ai rfl (by rw[decide_eq_decide];omega),sb rfl⟩
 · refine bh ?_;exact⟨_,rfl,rfl,rfl⟩
theorem xQ (c:UInt8):av Tryz.prog 159 #[.int .u8 (c.toNat:Nat)] h (bq fun r h'=>r= .bool (jP c)/\h'=h):=by
 rw[qM];refine bP ?_;refine aR ?_;refine de ?_;refine aZ ?_;refine cV ?_;refine aR ?_;refine dW [(2,.bool (decide (48<=c.toNat/\c.toNat<=57)))] rfl ?_ ?_
 · refine af ?_;refine b9 5 (fun a=>?_) (fun a=>?_)
   · have a:=of_decide_eq_true a;refine af ?_;exact aA rfl ⟨ai rfl (by rw[decide_eq_decide];omega),sb rfl⟩
   · have a:=of_decide_eq_false a;refine af ?_;exact aA rfl ⟨ai rfl (by rw[decide_eq_false (by omega)]),sb rfl⟩
 · refine bh ?_;exact⟨_,rfl,rfl,rfl⟩
theorem mJ (hg:BW h) (s:By) (hs:s.length<=1000000):av Tryz.prog 125 #[.string (bs s)] h (bq fun r h'=>r= .bool (lD aS s)/\h'=h):=by
 have hbz:=aL s;refine bP ?_;refine af ?_;refine gJ (σ:=Nat) (fun i=>[(6,.int .i64 (i:Nat))]) (fun i g=>g=h/\i<=s.length/\∀j c,j<i->s[j]? =some c->wO j c=true) (fun i=>s.length-i) (0) ⟨rfl,Nat.zero_le _,fun j c q=>by omega⟩ rfl ?_;rintro i g ⟨rfl,hi,hin⟩ ih;refine af ?_;refine aP (fun hlt=>?_) (fun hlt=>?_)
 · have hil:i<s.length:=by omega
   obtain⟨c,hc⟩:∃c,s[i]? =some c:=⟨_,List.getElem?_eq_getElem hil⟩
   iterate 4 refine aR ?_
   refine de ?_
   iterate 2 refine aZ ?_
   refine cV ?_;refine aR ?_;refine dW [(24,.bool (!wO i c))] rfl ?_ ?_
   · refine af ?_;refine xp rfl (sG rfl rfl i rfl (eJ hc)) ?_;refine xo rfl (aF rfl (vQ c)) ?_;rintro _ g1 ⟨rfl,hg1⟩;subst hg1;refine af ?_;refine b9 14 (fun a=>?_) (fun a=>?_)
     · have a:isLet c=false:=by simpa using a
       refine af ?_;refine b9 17 (fun z=>?_) (fun z=>?_)
       · have z:=of_decide_eq_true z;refine af ?_;exact aA rfl ⟨ai rfl (by unfold wO;rw[a,decide_eq_false (by omega)];rfl),sb rfl⟩
       · have z:=of_decide_eq_false z;refine af ?_;refine xp rfl (sG rfl rfl i rfl (eJ hc)) ?_;refine xo rfl (aF rfl (xQ c)) ?_;rintro _ g1 ⟨rfl,hg1⟩;subst hg1;refine af ?_;exact aA rfl ⟨ai rfl (by unfold wO;rw[a,decide_eq_true (show i≠0 by omega)];rfl),sb rfl⟩
     · have a:isLet c=true:=by simpa using a
       refine af ?_;exact aA rfl ⟨ai rfl (by unfold wO;rw[a];rfl),sb rfl⟩
   · refine fF (fun hb=>?_) (fun hb=>?_)
     · have hb:wO i c=false:=by simpa using hb
       refine af ?_;refine bh ?_;exact⟨_,rfl,by rw[AJ aS hc hb];rfl,rfl⟩
     · have hb:wO i c=true:=by simpa using hb
       refine af ?_;exact ih (i+1) ⟨rfl,hil,fun j d hj hd=>(Nat.lt_succ_iff_lt_or_eq.1 hj).elim (fun q=>hin j d q hd) (fun q=>by subst q;rw[hc] at hd;cases hd;exact hb)⟩
 · iterate 2 refine aR ?_
   refine dW [(2,.bool (lD aS s))] rfl ?_ ?_
   · refine af ?_;refine b9 28 (fun a=>?_) (fun a=>?_)
     · have h0:s≠[]:=fun q=>by rw[q] at a;exact of_decide_eq_true a rfl
       refine af ?_;refine xo rfl (aF rfl (tf hg s hs)) ?_;rintro _ g1 ⟨rfl,hg1⟩;subst hg1;refine af ?_;exact aA rfl ⟨ai rfl (by rw[wT aS h0 (fun j c hj=>hin j c (by have:=(List.getElem?_eq_some_iff.1 hj).1;omega) hj)]),sb rfl⟩
     · have h0:s=[]:=by simpa using eq_nil (s:=s) (by simpa using a)
       refine af ?_;exact aA rfl ⟨ai rfl (by rw[h0,wR]),sb rfl⟩
   · refine bh ?_;exact⟨_,rfl,rfl,rfl⟩
theorem CK (k:Int):av Tryz.prog 123 #[.int .i64 k] h (bq fun r h'=>r=packed [.int .i64 ((bY k).1:Nat),.int .i64 ((bY k).2:Nat)]/\h'=h):=by
 refine bP ?_;refine af ?_;refine aP (fun c4=>?_) (fun c4=>?_)
 · refine af ?_;refine eu rfl (by simp[c4]) ?_;refine af ?_;refine bh ?_;exact⟨_,rfl,by unfold bY;rw[if_pos (.inl c4)];rfl,rfl⟩
 · refine af ?_;refine aP (fun c8=>?_) (fun c8=>?_)
   · refine af ?_;refine bh ?_;exact⟨_,rfl,by unfold bY;rw[if_pos (.inr c8)];rfl,rfl⟩
   · refine af ?_;refine aP (fun c5=>?_) (fun c5=>?_)
     · refine af ?_;refine eu rfl (by simp[c5]) ?_;refine af ?_;refine bh ?_;exact⟨_,rfl,by unfold bY;rw[if_neg (by omega),if_pos (.inl c5)];rfl,rfl⟩
     · refine af ?_;refine aP (fun c9=>?_) (fun c9=>?_)
       · refine af ?_;refine bh ?_;exact⟨_,rfl,by unfold bY;rw[if_neg (by omega),if_pos (.inr c9)];rfl,rfl⟩
       · refine af ?_;refine aP (fun c6=>?_) (fun c6=>?_)
         · refine af ?_;refine bh ?_;exact⟨_,rfl,by unfold bY;rw[if_neg (by omega),if_neg (by omega),if_pos c6];rfl,rfl⟩
         · refine af ?_;refine aP (fun c7=>?_) (fun c7=>?_)
           · refine af ?_;refine bh ?_;exact⟨_,rfl,by unfold bY;rw[if_neg (by omega),if_neg (by omega),if_neg c6,if_pos c7];rfl,rfl⟩
           · refine af ?_;refine aP (fun c10=>?_) (fun c10=>?_)
             · refine af ?_;refine bh ?_;exact⟨_,rfl,by unfold bY;rw[if_neg (by omega),if_neg (by omega),if_neg c6,if_neg c7,if_pos c10];rfl,rfl⟩
             · refine af ?_;refine bh ?_;exact⟨_,rfl,by unfold bY;rw[if_neg (by omega),if_neg (by omega),if_neg c6,if_neg c7,if_neg c10];rfl,rfl⟩
def bounds (k:Int) (n:Nat):Bool:=decide ((0<=k/\k<=10)/\(bY k).1<=n/\n<=(bY k).2)
theorem tF (word:By->Bool) (k:Int) (t:By) (n:Nat):jf word k t n=(bounds k n && cA word k t):=by
 unfold jf bounds;rw[Bool.eq_iff_iff];simp only[Bool.and_eq_true,decide_eq_true_eq];constructor
 · intro ⟨a,b,c,d,e⟩;exact⟨⟨⟨c,d⟩,a,b⟩,e⟩
 · intro ⟨⟨⟨c,d⟩,a,b⟩,e⟩;exact⟨a,b,c,d,e⟩
abbrev lY (k:Int) (t:By) (a:Option Addr) (n c:Nat):List Value:=[.int .i64 k,.string (bs t),.slice a n c]
theorem Aq (hg:Iq h) (k:Int) (t:By) (a:Option Addr) (n c:Nat) (ht:t.length<=1000000) :
 av Tryz.prog 80 #[.agg #[.int .i64 k,.string (bs t),.slice a n c]] h (bq fun r h'=>r= .bool (jf aS k t n)/\aq h h'):=by
 rw[tF];have hbz:=aL t;refine bP ?_;refine af ?_;refine xo rfl (iF) ?_;rintro _ h1 ⟨rfl,k1,e1,z1⟩;have k1:aC h1 h.size 27 (lY k t a n c):=k1;refine af ?_;refine xp rfl (az rfl (k1.cell (i:=0) rfl)) ?_;refine xo rfl (aF rfl (CK k)) ?_;rintro _ h2 ⟨rfl,hh2⟩;subst hh2
 iterate 5 refine aZ ?_
 refine cV ?_
 iterate 2 refine aR ?_
 refine dW [(32,.bool (!bounds k n))] rfl ?_ ?_
 · refine af ?_;refine xp rfl (az rfl (k1.cell (i:=0) rfl)) ?_;refine af ?_;refine b9 14 (fun a=>?_) (fun a=>?_)
   · have a:=of_decide_eq_true a;refine af ?_;exact aA rfl ⟨ai rfl (by unfold bounds;rw[decide_eq_false (by omega)];rfl),sb rfl⟩
   · have a:=of_decide_eq_false a;refine af ?_;refine xp rfl (az rfl (k1.cell (i:=0) rfl)) ?_;refine af ?_;refine b9 19 (fun b=>?_) (fun b=>?_)
     · have b:=of_decide_eq_true b;refine af ?_;exact aA rfl ⟨ai rfl (by unfold bounds;rw[decide_eq_false (by omega)];rfl),sb rfl⟩
     · have b:=of_decide_eq_false b;refine af ?_;refine xp rfl (az rfl (k1.cell (i:=2) rfl)) ?_;refine af ?_;refine b9 26 (fun d=>?_) (fun d=>?_)
       · have d:=of_decide_eq_true d;refine af ?_;exact aA rfl ⟨ai rfl (by unfold bounds;rw[decide_eq_false (by omega)];rfl),sb rfl⟩
       · have d:=of_decide_eq_false d;refine af ?_;refine xp rfl (az rfl (k1.cell (i:=2) rfl)) ?_;refine af ?_;exact aA rfl ⟨ai rfl (by unfold bounds;rw[<-decide_not,decide_eq_decide];omega),sb rfl⟩
 · refine fF (fun hb=>?_) (fun hb=>?_)
   · have hb:bounds k n=false:=by simpa using hb
     rw[hb];refine af ?_;refine bh ?_;exact⟨_,rfl,rfl,e1⟩
   · have hb:bounds k n=true:=by simpa using hb
     rw[hb,Bool.true_and];refine af ?_;refine xp rfl (az rfl (k1.cell (i:=0) rfl)) ?_;refine af ?_;refine aP (fun c0=>?_) (fun c0=>?_)
     · refine af ?_;refine xp rfl (az rfl (k1.cell (i:=1) rfl)) ?_;refine xo rfl (aF rfl (wk t)) ?_;rintro _ h3 ⟨rfl,e3⟩;refine af ?_;refine bh ?_;exact⟨_,rfl,by unfold cA;rw[if_pos c0];rfl,e1.trans e3⟩
     · refine af ?_;refine aP (fun c1=>?_) (fun c1=>?_)
       · refine af ?_;refine xp rfl (az rfl (k1.cell (i:=1) rfl)) ?_;refine af ?_;refine bh ?_;exact⟨_,rfl,by unfold cA;rw[if_neg c0,if_pos c1];show Value.bool _=_;rw[hbz];simp only[Value.bool.injEq,decide_eq_decide];omega,e1⟩
       · refine af ?_;refine aP (fun c2=>?_) (fun c2=>?_)
         · refine aR ?_;refine dW [(2,.bool (decide (t=iq) ||decide (t=lz)))] rfl ?_ ?_
           · refine af ?_;refine xp rfl (az rfl (k1.cell (i:=1) rfl)) ?_;refine af ?_;refine b9 51 (fun g=>?_) (fun g=>?_)
             · have g:t=iq:=aI (m:=iq) (of_decide_eq_true g);refine af ?_;exact aA rfl ⟨ai rfl (by rw[decide_eq_true g];rfl),sb rfl⟩
             · have g:¬t=iq:=fun q=>of_decide_eq_false g (by rw[q];rfl)
               refine af ?_;refine xp rfl (az rfl (k1.cell (i:=1) rfl)) ?_;refine af ?_;exact aA rfl ⟨ai rfl (by rw[decide_eq_false g,Bool.false_or];exact DM t lz),sb rfl⟩
           · refine bh ?_;exact⟨_,rfl,by unfold cA;rw[if_neg c0,if_neg c1,if_pos c2];rfl,e1⟩
         · refine af ?_;refine aP (fun c3=>?_) (fun c3=>?_)
           · refine af ?_;refine eu rfl (by simp[c3]) ?_;refine af ?_;refine xp rfl (az rfl (k1.cell (i:=1) rfl)) ?_;refine xo rfl (aF rfl (mJ (hg.ah e1).lx t ht)) ?_;rintro _ h3 ⟨rfl,hh3⟩;refine af ?_;refine bh ?_;exact⟨_,rfl,by unfold cA;rw[if_neg c0,if_neg c1,if_neg c2,if_pos (.inl c3)];rfl,by rw[hh3];exact e1⟩
           · refine af ?_;refine aP (fun c7=>?_) (fun c7=>?_)
             · refine af ?_;refine eu rfl (by simp[c7]) ?_;refine af ?_;refine xp rfl (az rfl (k1.cell (i:=1) rfl)) ?_;refine xo rfl (aF rfl (mJ (hg.ah e1).lx t ht)) ?_;rintro _ h3 ⟨rfl,hh3⟩;refine af ?_;refine bh ?_;exact⟨_,rfl,by unfold cA;rw[if_neg c0,if_neg c1,if_neg c2,if_pos (.inr (.inl c7))];rfl,by rw[hh3];exact e1⟩
             · refine af ?_;refine aP (fun c8=>?_) (fun c8=>?_)
               · refine af ?_;refine xp rfl (az rfl (k1.cell (i:=1) rfl)) ?_;refine xo rfl (aF rfl (mJ (hg.ah e1).lx t ht)) ?_;rintro _ h3 ⟨rfl,hh3⟩;refine af ?_;refine bh ?_;exact⟨_,rfl,by unfold cA;rw[if_neg c0,if_neg c1,if_neg c2,if_pos (.inr (.inr c8))];rfl,by rw[hh3];exact e1⟩
               · refine af ?_;refine aP (fun c4=>?_) (fun c4=>?_)
                 · obtain⟨uv,hu1,hu2⟩:=(hg.ah e1).una;refine af ?_;refine xp rfl (az rfl hu1) ?_;refine af ?_;refine xp rfl (az rfl (k1.cell (i:=1) rfl)) ?_;refine xo rfl (aF rfl (oK hu2 t)) ?_;rintro _ h3 ⟨rfl,hh3⟩;refine af ?_;refine bh ?_;exact⟨_,rfl,by unfold cA;rw[if_neg c0,if_neg c1,if_neg c2,if_neg (by omega),if_pos c4];rfl,by rw[hh3];exact e1⟩
                 · refine af ?_;refine aP (fun c5=>?_) (fun c5=>?_)
                   · obtain⟨uv,hu1,hu2⟩:=(hg.ah e1).bin;refine af ?_;refine xp rfl (az rfl hu1) ?_;refine af ?_;refine xp rfl (az rfl (k1.cell (i:=1) rfl)) ?_;refine xo rfl (aF rfl (oK hu2 t)) ?_;rintro _ h3 ⟨rfl,hh3⟩;refine af ?_;refine bh ?_;exact⟨_,rfl,by unfold cA;rw[if_neg c0,if_neg c1,if_neg c2,if_neg (by omega),if_neg c4,if_pos c5];rfl,by rw[hh3];exact e1⟩
                   · refine af ?_;refine xp rfl (az rfl (k1.cell (i:=1) rfl)) ?_;refine af ?_;refine bh ?_;exact⟨_,rfl,by unfold cA;rw[if_neg c0,if_neg c1,if_neg c2,if_neg (by omega),if_neg c4,if_neg c5];show Value.bool _=_;rw[<-kC],e1⟩
def alone (x:Tr):Bool:=decide (x.kind≠7) ||decide (x.kids.length=2)
def sy (k:Int) (i:Nat) (x:Tr):Bool:=decide (k≠6) ||(decide (i=0) ||(decide (x.kind=10) ||(decide (i≠1) && decide (x.kind=6))))
theorem ux (k:Int) (i:Nat) (x:Tr):Dz k i x=((decide (k=10) ||alone x) && sy k i x):=by cases x;rfl
theorem G9 (k:Int) (i:Nat) (x:Tr):(!sy k i x)=decide (k=6/\0<i/\x.kind≠10/\(i=1\/x.kind≠6)):=by
 unfold sy;rw[Bool.eq_iff_iff,Bool.not_eq_true',Bool.eq_false_iff];simp only[ne_eq,Bool.or_eq_true,Bool.and_eq_true,decide_eq_true_eq];omega
def Ks (x:Tr):Prop:=∀(h:aj) (O:Nat->Prop) (v:Value),Iq h->cL h O v x->av Tryz.prog 37 #[v] h (bq fun r h'=>r= .bool (bQ aS x)/\aq h h')
theorem zV (hs:Ks x) (hg:Iq h) (hv:cL h O v x):av Tryz.prog 81 #[v] h (bq fun r h'=>r= .bool (bQ aS x && alone x)/\aq h h'):=by
 cases x with
 |mk k t l =>
  obtain⟨w,rfl,hw⟩:=id hv.open;obtain⟨a,n,c,rfl,hws⟩:=id hw.open;have hn:l.length=n:=hws.len;refine bP ?_;refine af ?_;refine xo rfl (iF) ?_;rintro _ h1 ⟨rfl,k1,e1,z1⟩;have k1:aC h1 h.size 27 (lY k t a n c):=k1;have hcall:=hs h1 O _ (hg.ah e1) (hv.mv (Mv.ah e1));refine aZ ?_;refine cV ?_;refine aR ?_;refine J0 (fun(u:Unit) (h':aj)=>aq h1 h') (fun(u:Unit)=>[(2,.bool (bQ aS (.mk k t l) && alone (.mk k t l)))]) rfl ?_ ?_
  · refine xp rfl (bV rfl k1.row) ?_;refine xo rfl (aF rfl hcall) ?_;rintro _ h2 ⟨rfl,e2⟩;refine af ?_;refine b9 5 (fun a=>?_) (fun a=>?_)
    · refine af ?_;refine xp rfl (az rfl ((k1.ah e2).cell (i:=0) rfl)) ?_;refine af ?_;refine b9 9 (fun b=>?_) (fun b=>?_)
      · have b:¬k=7:=by simpa using b
        refine af ?_;exact lg () e2 ⟨ai rfl (by rw[a];unfold alone;rw[decide_eq_true (show Tr.kind (.mk k t l)≠7 from b)];rfl),sb rfl⟩
      · have b:k=7:=by simpa using b
        refine af ?_;refine xp rfl (az rfl ((k1.ah e2).cell (i:=2) rfl)) ?_;refine af ?_;exact lg () e2 ⟨ai rfl (by rw[a,Bool.true_and];unfold alone;rw[decide_eq_false (show ¬Tr.kind (.mk k t l)≠7 from fun q=>q b),Bool.false_or,<-hn,decide_eq_decide];show _↔l.length=2;omega),sb rfl⟩
    · refine af ?_;exact lg () e2 ⟨ai rfl (by rw[a];rfl),sb rfl⟩
  · rintro u h2 e2;refine bh ?_;exact⟨_,rfl,rfl,e1.trans e2⟩
theorem rz (word:By->Bool) (k:Int) (i:Nat) (x:Tr) (l:List Tr):fN word k i (x::l)=((bQ word x && Dz k i x) && fN word k (i+1) l):=by rw[fN]
theorem qB (word:By->Bool) (k:Int) (t:By) (l:List Tr):bQ word (.mk k t l)=(jf word k t l.length && fN word k 0 l):=by rw[bQ]
theorem Ch:∀(d:Nat) (x:Tr),x.dep<=d->x.wt<=1000000->Ks x:=by
 intro d
 induction d with
 |zero=>intro x hx;cases x with|mk k t l=>simp[Tr.dep] at hx
 |succ d ih =>
 intro x hd hwt h O v hg hv;cases x with
 |mk k t l =>
  obtain⟨w,rfl,hw⟩:=id hv.open;obtain⟨a,n,c,rfl,hws⟩:=id hw.open;have hn:l.length=n:=hws.len;subst hn;have hcap:=hws.cap;have hle:=hws.le;simp only[maxLen] at hcap;have htl:=Dg k t l;rw[qB];refine bP ?_;refine af ?_;refine xo rfl (iF) ?_;rintro _ h1 ⟨rfl,k1,e1,z1⟩;have k1:aC h1 h.size 27 (lY k t a l.length c):=k1;refine af ?_;refine xp rfl (bV rfl k1.row) ?_;refine xo rfl (aF rfl (Aq (hg.ah e1) k t a l.length c (by omega))) ?_;rintro _ h2 ⟨rfl,e2⟩;have e02:=e1.trans e2;have k2:=k1.ah e2;refine af ?_;refine fF (fun hs=>?_) (fun hs=>?_)
  · have hs:jf aS k t l.length=false:=by simpa using hs
    refine af ?_;refine bh ?_;exact⟨_,rfl,by rw[hs];rfl,e02⟩
  · have hs:jf aS k t l.length=true:=by simpa using hs
    rw[hs,Bool.true_and];refine af ?_;refine xp rfl (az rfl (k2.cell (i:=2) rfl)) ?_;refine af ?_;refine gJ (σ:=Nat) (fun i=>[(11,.int .i64 (i:Nat))]) (fun i g=>i<=l.length/\aq h2 g/\fN aS k i (l.drop i)=fN aS k 0 l) (fun i=>l.length-i) (0) ⟨Nat.zero_le _,Ext.refl _ _,rfl⟩ rfl ?_;rintro i g ⟨hi,eg,hq⟩ ihL;have kg:=k2.ah eg;have e0g:=e02.trans eg;refine af ?_;refine aP (fun hlt=>?_) (fun hlt=>?_)
    · have hil:i<l.length:=by omega
      have hwsg:=hws.mv (Mv.ah e0g);obtain⟨b,o,x,cs,ha,hob,hx,hrow,hR⟩:=Sl.nd hwsg hil;have hxm:x∈l:=List.mem_of_getElem? hx;have hxw:=B5 (k:=k) (t:=t) hxm
      have hdr:l.drop i=x::l.drop (i+1):=by
       obtain⟨h1,h2⟩:=List.getElem?_eq_some_iff.1 hx;rw[List.drop_eq_getElem_cons h1,h2]
      rw[hdr,rz,ux] at hq;obtain⟨xk,xt,xa,xn,xc,hcs,hR'⟩:=(cL.of hR).get;obtain rfl:cs=[.int .i64 xk,.string (bs xt),.slice xa xn xc]:=by have:=congrArg (fun v=>match v with|Value.agg cs=>cs.toList|_=>[]) hcs;simpa using this
      have hxk:xk=x.kind:=by cases x with|mk k' t' l'=>obtain⟨v',hv1,_⟩:=iR hR;cases hv1;rfl
      have hst:=ih x (by have:=sW (k:=k) (t:=t) hxm;omega) (by omega)
      iterate 4 refine aR ?_
      refine de ?_;refine aZ ?_;refine xp rfl (cK rfl rfl i rfl ha) ?_;refine xp rfl (bV rfl hrow) ?_;refine xo rfl (cm) ?_;rintro _ g1 ⟨rfl,kn,e3,z3⟩;refine af ?_;refine aH rfl (aK rfl rfl kn jH) ?_;rintro _ g2 ⟨rfl,kx,x2,z2⟩;have kx:aC g2 g.size 27 [.int .i64 xk,.string (bs xt),.slice xa xn xc]:=kx;have eg2:aq g g2:=aq.only e3 x2 (Nat.le_refl _);have kg2:=kg.ah eg2;have hg2:=hg.ah (e0g.trans eg2);have hnx:=(cL.of hR).mv (Mv.ah eg2);have hcs:=hst g2 O _ hg2 hnx;have hcv:=zV hst hg2 hnx;refine cV ?_
      iterate 2 refine aR ?_
      refine J0 (fun(u:Unit) (h':aj)=>aq g2 h') (fun(u:Unit)=>[(33,.bool (!(bQ aS x && (decide (k=10) ||alone x))))]) rfl ?_ ?_
      · refine af ?_;refine xp rfl (az rfl (kg2.cell (i:=0) rfl)) ?_;refine af ?_;refine b9 19 (fun p=>?_) (fun p=>?_)
        · have p:=of_decide_eq_true p;refine xp rfl (bV rfl kx.row) ?_;refine xo rfl (aF rfl hcs) ?_;rintro _ g3 ⟨rfl,e4⟩;refine af ?_;refine b9 24 (fun q=>?_) (fun q=>?_)
          · refine af ?_;exact lg () e4 ⟨ai rfl (by have q:bQ aS x=false:=by { simpa using q };rw[q];rfl),sb rfl⟩
          · have q:bQ aS x=true:=by simpa using q
            refine af ?_;refine xp rfl (az rfl ((kg2.ah e4).cell (i:=0) rfl)) ?_;refine af ?_;refine RW.ck (d:=28) (b':=false) rfl ((by rw[p];rfl)) ?_;refine af ?_;exact lg () e4 ⟨ai rfl (by rw[q,decide_eq_true p];rfl),sb rfl⟩
        · have p:=of_decide_eq_false p;refine af ?_;refine RW.ck (d:=24) (b':=false) rfl (rfl) ?_;refine xp rfl (az rfl (kg2.cell (i:=0) rfl)) ?_;refine af ?_;refine RW.ck (d:=28) (b':=true) rfl ((by simpa using p)) ?_;refine xp rfl (bV rfl kx.row) ?_;refine xo rfl (aF rfl hcv) ?_;rintro _ g3 ⟨rfl,e4⟩;refine af ?_;exact lg () e4 ⟨ai rfl (by rw[decide_eq_false p,Bool.false_or]),sb rfl⟩
      · rintro u g3 e4;have kg3:=kg2.ah e4;have kx3:=kx.ah e4;refine fF (fun hb=>?_) (fun hb=>?_)
        · have hb:(bQ aS x && (decide (k=10) ||alone x))=false:=by rw[Bool.not_eq_true'] at hb;exact hb
          refine af ?_;refine bh ?_;refine⟨_,rfl,?_,(e0g.trans eg2).trans e4⟩;rw[<-hq,<-Bool.and_assoc,hb];rfl
        · have hb:(bQ aS x && (decide (k=10) ||alone x))=true:=by rw[Bool.not_eq_false'] at hb;exact hb
          rw[<-Bool.and_assoc,hb,Bool.true_and] at hq
          iterate 2 refine aR ?_
          refine dW [(54,.bool (decide (k=6/\0<i/\xk≠10/\(i=1\/xk≠6))))] rfl ?_ ?_
          · refine af ?_;refine xp rfl (az rfl (kg3.cell (i:=0) rfl)) ?_;refine af ?_;refine b9 37 (fun p=>?_) (fun p=>?_)
            · have p:=of_decide_eq_true p;refine af ?_;refine b9 41 (fun q=>?_) (fun q=>?_)
              · have q:=of_decide_eq_true q;refine af ?_;refine xp rfl (az rfl (kx3.cell (i:=0) rfl)) ?_;refine af ?_;refine b9 46 (fun r=>?_) (fun r=>?_)
                · have r:¬xk=10:=by simpa using r
                  refine af ?_;refine b9 49 (fun s=>?_) (fun s=>?_)
                  · have s:=of_decide_eq_true s;refine af ?_;exact aA rfl ⟨ai rfl (by rw[decide_eq_true (by omega)]),sb rfl⟩
                  · have s:=of_decide_eq_false s;refine af ?_;refine xp rfl (az rfl (kx3.cell (i:=0) rfl)) ?_;refine af ?_;exact aA rfl ⟨ai rfl (by rw[decide_eq_decide];omega),sb rfl⟩
                · have r:xk=10:=by simpa using r
                  refine af ?_;exact aA rfl ⟨ai rfl (by rw[decide_eq_false (by omega)]),sb rfl⟩
              · have q:=of_decide_eq_false q;refine af ?_;exact aA rfl ⟨ai rfl (by rw[decide_eq_false (by omega)]),sb rfl⟩
            · have p:=of_decide_eq_false p;refine af ?_;exact aA rfl ⟨ai rfl (by rw[decide_eq_false (by omega)]),sb rfl⟩
          · rw[hxk,<-G9];refine fF (fun hb2=>?_) (fun hb2=>?_)
            · have hb2:sy k i x=false:=by simpa using hb2
              refine af ?_;refine bh ?_;exact⟨_,rfl,by rw[<-hq,hb2];rfl,(e0g.trans eg2).trans e4⟩
            · have hb2:sy k i x=true:=by simpa using hb2
              rw[hb2,Bool.true_and] at hq;refine af ?_;exact ihL (i+1) ⟨hil,(eg.trans eg2).trans e4,hq⟩
    · obtain rfl:i=l.length:=by omega
      rw[List.drop_length] at hq;refine af ?_;refine bh ?_;exact⟨_,rfl,by rw[<-hq];rfl,e0g⟩
theorem rq (hw:x.wt<=1000000) (hg:Iq h) (hv:cL h O v x):av Tryz.prog 19 #[v] h (bq fun r h'=>r= .bool (bQ aS x)/\aq h h'):=by
 obtain⟨k,t,a,n,c,rfl,hR⟩:=id hv.get;refine bP ?_;refine af ?_;refine xo rfl (iF) ?_;rintro _ h1 ⟨rfl,k1,e1,z1⟩;have hcall:=Ch _ x (Nat.le_refl _) hw h1 O _ (hg.ah e1) (hv.mv (Mv.ah e1));refine af ?_;refine xp rfl (bV rfl k1.row) ?_;refine xo rfl (aF rfl hcall) ?_;rintro _ h2 ⟨rfl,e2⟩;refine af ?_;refine bh ?_;exact⟨_,rfl,rfl,e1.trans e2⟩
theorem oI {a:Option Addr}{n c:Nat}(hws:Sl eN h O a n c l) (hi:i<n) :
 ∃b o x xk xt xa xn xc,a=some ⟨b,o,none⟩/\l[i]? =some x/\Lw.rowAt h b (o+i*3) (lY xk xt xa xn xc)/\cL h O (.agg #[.int .i64 xk,.string (bs xt),.slice xa xn xc]) x/\xk=x.kind/\¬O b:=by
 obtain⟨b,o,x,cs,ha,hob,hx,hrow,hR⟩:=Sl.nd hws hi;cases x with
 |mk k t m =>
  obtain⟨v,rfl,hs⟩:=iR hR;obtain⟨xa,xn,xc,rfl,_⟩:=id hs.open;exact⟨b,o,_,k,t,xa,xn,xc,ha,hx,hrow,cL.of hR,rfl,hob⟩
structure o7 (hb:aj) (rb B:Nat) (O:Nat->Prop) (h:aj) (m:Nat) (ev:Value) (env:List Bd):Prop where
 ext:aq hb h
 blk:aC h rb 67 [.int .i64 (2000-(m:Int))]
 lt:∀b,O b->b<h.size
 own:O rb
 en:aY eB h O ev env
 ok:vZ (B-2*m) env
 mB:2*m<=B
 mL:m<=2000
 hB:B<=1000000
 hrb:hb.size<=rb
def Kt (rb:Nat) (O:Nat->Prop) (h:aj) (o:Out) (r:Value) (h':aj):Prop:=∃v,r=packed [v,.int .i64 o.2.1]/\cG h' O v o.1/\aC h' rb 67 [.int .i64 (2000-(o.2.2:Int))]/\Ext (fun b=>b=rb) h h'
def Lq (hb:aj) (rb B d:Nat):Prop:=∀{O:Nat->Prop}{h:aj}{m:Nat}{ev nv:Value}{env:List Bd}{n:Tr},o7 hb rb B O h m ev env->m<=d->cL h O nv n->Cl aS n->n.wt<=1000000 ->
 av Tryz.prog 20 #[.pointer (some ⟨rb,0,none⟩),ev,nv] h (bq fun r h'=>Kt rb O h (bp d m env n) r h')
def iV (h:aj) (O O':Nat->Prop):Prop:=(∀b,O b->O' b)/\∀b,O' b->O b\/h.size<=b
theorem iV.mv (k:iV h O O') (ho:O rb) (e:Ext (fun b=>b=rb) h h'):Mv O O' h h' :=
 Mv.cg e fun b hb hn=>⟨fun q=>hn (q▸ho),fun q=>(k.2 b q).elim hn (fun q=>by omega)⟩
theorem iV.rI (k:iV h O O') (e:aq h h'):Mv O O' h h' :=
 ⟨e.size,fun b hb hn=>⟨e.block b hb (fun k=>k),fun q=>(k.2 b q).elim hn (fun q=>by omega)⟩⟩
theorem Fx {h:aj}(k:∀b,O b->O' b) (g:aj):Mv O' O g g:=⟨Nat.le_refl _,fun b _ hn=>⟨rfl,fun q=>hn (k b q)⟩⟩
theorem o7.next {m':Nat}(I:o7 hb rb B O h m ev env) (k:iV h O O') (hm:m'<=m) (e:Ext (fun b=>b=rb) h h') (b:aC h' rb 67 [.int .i64 (2000-(m':Int))])
 (hl:∀b,O' b->b<h'.size):o7 hb rb B O' h' m' ev env :=
 ⟨⟨by have:=I.ext.size;have:=e.size;omega,fun b hb _=>(e.block b (by have:=I.ext.size;omega) (by have:=I.hrb;omega)).trans (I.ext.block b hb (fun k=>k))⟩,b,hl,k.1 _ I.own,I.en.mv (k.mv I.own e),iu I.ok hm,by have:=I.mB;omega,by have:=I.mL;omega,I.hB,I.hrb⟩
theorem o7.wQ (I:o7 hb rb B O h m ev env) (k:iV h O O') (e:aq h h') (hl:∀b,O' b->b<h'.size):o7 hb rb B O' h' m ev env :=
 I.next k (Nat.le_refl _) (e.mono fun _ _ q=>q.elim) (I.blk.ah e) hl
theorem o7.BT (I:o7 hb rb B O h m ev env):rb<h.size:=I.blk.lt
abbrev upTo (O:Nat->Prop) (h h':aj):Nat->Prop:=fun b=>O b\/(h.size<=b/\b<h'.size)
theorem cz (O:Nat->Prop) (h h':aj):iV h O (upTo O h h'):=⟨fun _ q=>.inl q,fun _ q=>q.imp id And.left⟩
theorem iN (hl:∀b,O b->b<h.size) (hz:h.size<=h'.size):∀b,upTo O h h' b->b<h'.size:=fun b q=>by
 rcases q with q|q
 · have:=hl b q;omega
 · exact q.2
theorem iB {k:Int}(q:cL h O v (.mk k t l)):∃a n c,v= .agg #[.int .i64 k,.string (bs t),.slice a n c]/\eN.R h O [.int .i64 k,.string (bs t),.slice a n c] (.mk k t l)/\Sl eN h O a n c l:=by
 obtain⟨cs,rfl,hR⟩:=q;obtain⟨w,rfl,hs⟩:=iR hR;obtain⟨a,n,c,rfl,hk⟩:=hs.open;exact⟨a,n,c,rfl,hR,hk⟩
theorem getD_at (h:l[i]? =some x):l.getD i cj=x:=by rw[List.getD_eq_getElem?_getD,h];rfl
theorem uZ {k:Int}(h:Cl aS (.mk k t l)) (hk:k≠0):(bY k).1<=l.length/\l.length<=(bY k).2:=by
 rcases h with h|h
 · rw[V,bQ,Bool.and_eq_true] at h;have h1:=h.1;unfold jf at h1;simp only[Bool.and_eq_true,decide_eq_true_eq] at h1;exact⟨h1.1,h1.2.1⟩
 · cases h;exact absurd rfl hk
theorem cC {O3:Nat->Prop}{g g':aj}{b6:Nat}(hO:∀b,O b->O3 b) (h6:O3 b6) (x:Ext (fun b=>b=b6) g g'):Mv O3 O g g':=Mv.cg x fun b _ hn=>⟨fun q=>hn (q▸h6),fun q=>hn (hO b q)⟩
theorem fX {a:Option Addr}{n c:Nat}(hws:Sl eN h O a n c l) (hi:i<n) :
 ∃b o xk xt xa xn xc,a=some ⟨b,o,none⟩/\(¬O b/\b<h.size)/\Lw.rowAt h b (o+i*3) (lY xk xt xa xn xc)/\cL h O (.agg #[.int .i64 xk,.string (bs xt),.slice xa xn xc]) (l.getD i cj):=by
 obtain⟨b,o,x,xk,xt,xa,xn,xc,ha,hx,hr,hR,_,hO⟩:=oI hws hi;exact⟨b,o,xk,xt,xa,xn,xc,ha,⟨hO,cS hr (by simp)⟩,hr,by rw[getD_at hx];exact hR⟩
theorem EM (ih:Lq hb rb B d) (I:o7 hb rb B O h m ev env) (hm:m<=d) (hn:cL h O nv (.mk 7 t l)) (hc:Cl aS (.mk 7 t l)) (hw:(Tr.mk 7 t l).wt<=1000000) :
 av Tryz.prog 43 #[.pointer (some ⟨rb,0,none⟩),ev,nv] h (bq fun r h'=>Kt rb O h (I0 (bp d) m env t l) r h'):=by
 obtain⟨na,nn,nc,rfl,hR,hks⟩:=iB hn;have hkn:=hks.len;subst hkn;obtain⟨hl1,hl2⟩:=uZ hc (by decide);have hl1:1<=l.length:=hl1;have hl2:l.length<=2:=hl2;obtain⟨b0,o0,k0,t0,a0,n0,c0,ha0,hb0,hr0,hk0⟩:=fX hks (i:=0) (by omega);have hrl:=I.BT;refine bP ?_;refine af ?_;refine xo rfl (iF) ?_;rintro _ h1 ⟨rfl,k5,e1,z1⟩;refine xo rfl (cm) ?_;rintro _ h2 ⟨rfl,k6,e2,z2⟩;have e12:=e1.trans e2;have k5:aC h2 h.size 27 [.int .i64 7,.string (bs t),.slice na l.length nc]:=k5.ah e2;have m2:=cz O h h2;have I2:=I.wQ m2 e12 (iN I.lt e12.size);have o1:=iQ B d m env (l.getD 0 cj) I.mB I.ok (cH hw 0);have hih:=ih I2 hm (hk0.mv (m2.rI e12)) (hc.xm 0) (cH hw 0);unfold I0;generalize bp d m env (l.getD 0 cj)=o at hih o1 ⊢;obtain⟨v,e,m'⟩:=o;obtain⟨hm',hvk,hlt⟩:=o1;dsimp only at hm' hvk hlt ⊢;refine af ?_;refine xp rfl (az rfl (k5.cell (i:=2) rfl)) ?_;refine xp rfl (cK rfl rfl 0 rfl ha0) ?_;refine xp rfl (bV rfl (e12.rowAt (fun k=>k) hr0)) ?_;refine xo rfl (aF rfl hih) ?_;rintro _ h3 ⟨v3,rfl,hv3,b3,e3⟩;dsimp only at hv3 b3;obtain⟨nk,nt,xa,xn,xc,ea,en,ec,rfl,_,hR3,_⟩:=cG.get hv3;refine af ?_;refine xo rfl (cm) ?_;rintro _ h4 ⟨rfl,k8,e4,z4⟩;refine aH rfl (aK rfl rfl k8 dX) ?_;rintro _ h5 ⟨rfl,k85,x5,z5⟩;have k85:aC h5 h3.size 30 (iG v.kind v.num v.fO v.self nk nt xa xn xc ea en ec):=k85;have e35:aq h3 h5:=aq.only e4 x5 (Nat.le_refl _);have E25:Ext (fun b=>b=rb) h2 h5:=e3.trans (e35.mono fun _ _ q=>q.elim);have E05:Ext (fun b=>b=rb) h h5:=(e12.mono fun _ _ q=>q.elim).trans E25;have zz:=And.intro e3.size (And.intro e35.size e12.size);have m23:=cz (upTo O h h2) h3 h5;obtain⟨O3,hO3⟩:∃O3,O3=upTo (upTo O h h2) h3 h5:=⟨_,rfl⟩
 have l3:∀b,O3 b->b<h5.size:=fun b q=>by
  rw[hO3] at q
  rcases q with (q|q)|q
  · have:=I.lt b q;omega
  · omega
  · omega
 have m3:iV h O O3:=by
  rw[hO3]
  exact⟨fun b q=>.inl (.inl q),fun b q=>by
   rcases q with (q|q)|q
   · exact .inl q
   · exact .inr q.1
   · exact .inr (by omega)⟩
 have b5:=b3.ah e35;have hR5:=eV.mv hR3 (m23.rI e35);rw[<-hO3] at hR5;have o6:O3 h1.size:=by rw[hO3];exact .inl (.inr (by omega))
 have k55:=k5.ext E25 (by omega);have k65:=k6.ext E25 (by omega);refine aZ ?_;refine cV ?_
 iterate 2 refine aR ?_
 refine dW [(27,.bool (decide (e≠0\/l.length=1)))] rfl ?_ ?_
 · refine af ?_;refine b9 22 (fun p=>?_) (fun p=>?_)
   · have p:=of_decide_eq_true p;refine af ?_;exact aA rfl ⟨ai rfl (by rw[decide_eq_true (.inl p)]),sb rfl⟩
   · have p:=of_decide_eq_false p;refine af ?_;refine xp rfl (az rfl (k55.cell (i:=2) rfl)) ?_;refine af ?_;exact aA rfl ⟨ai rfl (by rw[decide_eq_decide];exact⟨fun q=>.inr (by omega),fun q=>by have:=q.resolve_left p;omega⟩),sb rfl⟩
 · refine fF (fun hx=>?_) (fun hx=>?_)
   · have hx:=of_decide_eq_true hx;refine af ?_;refine xp rfl (bV rfl k85.row) ?_;refine af ?_;refine aH rfl (aK rfl rfl k65 dX) ?_;rintro _ h6 ⟨rfl,k66,x6,z6⟩;refine af ?_;refine bF (br rfl k66.row (dM bE)) ?_;rw[if_pos hx];exact⟨_,rfl,_,rfl,cG.of (eV.mv hR5 (cC m3.1 o6 x6)),b5.ext x6 (by omega),E05.aW x6 (fun b hb q=>by omega)⟩
   · have hx:=of_decide_eq_false hx;rw[if_neg hx];have he0:e=0:=Classical.byContradiction fun q=>hx (.inl q)
     obtain⟨b1,o1',k1,t1,a1,n1,c1,ha1,hb1,hr1,hk1⟩:=fX hks (i:=1) (by omega);have hb1r:b1≠rb:=fun q=>hb1.1 (q▸I.own)
     have hMk:¬(h.size=rb\/h5.size<=h.size):=by omega
     have hM8:¬(h3.size=rb\/h5.size<=h3.size):=by have:=I2.BT;omega
     have hM1:¬(b1=rb\/h5.size<=b1):=by omega
     have hr1':=E05.rowAt hb1r hr1;refine af ?_;refine kH 18 (fun b=>b=rb\/h5.size<=b) (fun i=>Nat.blt i 16) ?_;refine aG 0 ?_;refine aG 1 ?_;refine aG 2 ?_;refine bC 3 rfl (fun h' e=>az rfl (e.cell hMk (k55.cell (i:=1) rfl))) ?_;refine bC 4 rfl (fun h' e=>bV rfl (e.rowAt hM8 k85.row)) ?_;refine aG 5 ?_;refine bC 6 rfl (fun h' e=>az rfl (e.cell hMk (k55.cell (i:=1) rfl))) ?_;refine aG 9 ?_;refine bC 10 rfl (fun h' e=>az rfl (e.cell hMk (k55.cell (i:=2) rfl))) ?_;refine bC 11 rfl (fun h' e=>cK rfl rfl 1 rfl ha1) ?_;refine bC 12 rfl (fun h' e=>bV rfl (e.rowAt hM1 hr1')) ?_;refine cU 7 rfl (aF rfl (wN (cG.of hR5) t)) ?_;rintro r6 h6 ⟨hv6,e6⟩;refine⟨fun _=>e6.of,?_⟩;have hen6:aY eB h6 O3 ev env:=I.en.mv (m3.mv I.own (E05.trans (e6.mono fun _ _ q=>q.elim)));have hel:env.length<=1000000:=by have:=I.ok.1;have:=I.hB;omega
     refine cU 8 rfl (aF rfl (iY hen6 hel t hv6)) ?_;rintro r7 h7 ⟨ho7,e7⟩;refine⟨fun _=>e7.of,?_⟩;have e57:=e6.trans e7;have E07:=E05.trans (e57.mono fun _ _ q=>q.elim);have zy:=And.intro e6.size e7.size
     have I7:o7 hb rb B O3 h7 m' r7 (env++[(t,mG v t)]):=⟨⟨by have:=I.ext.size;omega,fun b hb _=>(E07.block b (by have:=I.ext.size;omega) (by have:=I.hrb;omega)).trans (I.ext.block b hb (fun k=>k))⟩,b5.ah e57,fun b q=>by have:=l3 b q;omega,m3.1 _ I.own,
      ho7.read (fun b hb q=>by have:=l3 b q;omega) (fun _ _ q=>q),kM I.ok (hlt he0) I.mB (nB hvk t) t,by have:=I.mB;omega,by have:=I.mL;omega,I.hB,I.hrb⟩
     refine cU 13 rfl (aF rfl ((ih I7 (by omega) (hk1.mv (m3.mv I.own E07)) (hc.xm 1) (cH hw 1)))) ?_;rintro _ h8 ⟨v8,rfl,hv8,b8,e8⟩;refine⟨fun _=>e8.mono (fun b _ q=>.inl q),?_⟩;obtain⟨nk',nt',xa',xn',xc',ea',en',ec',rfl,_,hR8,_⟩:=cG.get hv8;have E58:=(e57.mono fun _ _ q=>q.elim).trans e8;refine aG 14 ?_;refine aG 15 ?_;refine iA 16 rfl (aK rfl rfl ((k65.ext E58 (by omega))) dX) ?_;rintro _ h9 ⟨rfl,k9,x9,z9⟩;refine⟨nofun,?_⟩;refine aG 17 ?_;refine gV ?_;refine bF (br rfl k9.row (dM bE)) ?_;exact⟨_,rfl,_,rfl,cG.of (eV.mv hR8 (cC m3.1 o6 x9)),b8.ext x9 (by omega),(E07.trans e8).aW x9 (fun b hb q=>by omega)⟩
theorem Av {b o:Nat}{c:Value}{cs:List Value}(k:Lw.rowAt h b o (c::cs)):Lw.rowAt h b (o+1) cs:=fun j v hv=>by
 have:=k (j+1) v hv
 rwa [show o+(j+1)=o+1+j by omega] at this
theorem tN {s:Nat}(k:aC h rb 73 [.int .i64 (s:Nat),.int .i64 0]) (hs:s<=1999){xs:List Bd}(hv:aY eB h (fun b=>b=rb) ev xs) (hn:cL h O nv (.mk 3 t []))
 {j:Nat}{vk vn:Int}{vs:By}(hj:xs[j]? =some (t,.mk vk vn vs [] cj [])) (hlast:∀(i:Nat) (y:Bd),j<i->xs[i]? =some y->y.1≠t) :
 av Tryz.prog 22 #[.pointer (some ⟨rb,0,none⟩),ev,nv] h (bq fun r h'=>vN r vk vn vs []/\aC h' rb 73 [.int .i64 ((s+1:Nat):Int),.int .i64 0]/\Ext (fun b=>b=rb) h h'):=by
 obtain⟨na,nn,nc,rfl,hR,hks⟩:=iB hn;obtain⟨oa,n,c,rfl,hos⟩:=id hv.open;have hxl:xs.length=n:=hos.len;subst hxl;have hxm:=hos.cap;have hxc:=hos.le;unfold maxLen at hxm;have hjl:j<xs.length:=(List.getElem?_eq_some_iff.1 hj).1;have hrl:=k.lt;refine bP ?_;refine af ?_;refine xo rfl (iF) ?_;rintro _ h1 ⟨rfl,k5,e1,z1⟩;refine xo rfl (cm) ?_;rintro _ h2 ⟨rfl,k6,e2,z2⟩;have e12:=e1.trans e2;have z12:=e1.size;have k5:aC h2 h.size 38 [.int .i64 3,.string (bs t),.slice na nn nc]:=k5.ah e2;have k2:=k.ah e12;refine af ?_;refine xp rfl (az rfl (k2.cell (i:=1) rfl)) ?_;refine af ?_;refine eC rfl (by simp) ?_;refine af ?_;refine xp rfl (az rfl (k2.cell (i:=0) rfl)) ?_;refine af ?_;refine eC rfl (by simp;omega) ?_;refine af ?_;refine xp rfl (az rfl (k2.cell (i:=0) rfl)) ?_;refine af ?_;refine aH rfl (kY rfl rfl k2) ?_;rintro _ h3 ⟨rfl,k3,x3,z3⟩;have k3:aC h3 rb 73 [.int .i64 ((s+1:Nat):Int),.int .i64 0]:=k3;have E:Ext (fun b=>b=rb) h h3:=(e12.mono fun _ _ q=>q.elim).trans x3;have k53:=k5.ext x3 (by omega);have k63:=k6.ext x3 (by omega);have hos3:=hos.mv (Mv.cg E fun b _ q=>⟨q,q⟩);refine af ?_;refine xp rfl (az rfl (k53.cell (i:=0) rfl)) ?_;refine af ?_;refine eC rfl (by simp) ?_;refine af ?_;refine eC rfl (by simp) ?_;refine af ?_;refine eC rfl (by simp) ?_;refine af ?_;refine eu rfl (by simp) ?_
 iterate 2 refine aR ?_
 refine dW [(9,.int .i64 ((xs.length-1:Nat):Int))] rfl ?_ ?_
 · refine af ?_;exact aA rfl ⟨congrArg (fun x:Int=>some (Value.int .i64 x)) (show (xs.length:Int)-1=((xs.length-1:Nat):Int) by omega),sb rfl⟩
 · refine af ?_;refine gJ (σ:=Nat) (fun i=>[(9,.int .i64 (i:Nat))]) (fun i h'=>h'=h3/\j<=i/\i<xs.length) (fun i=>i) ((xs.length-1)) ⟨rfl,by omega,by omega⟩ rfl ?_;rintro i g ⟨rfl,hji,hi⟩ ih;refine af ?_;refine eu rfl (by simp) ?_;obtain⟨b,o,y,nk,nt,a,m,c',ea,en,ec,ha,hy,hrow,hRy⟩:=HK hos3 hi
   iterate 4 refine aR ?_
   refine FE ?_
   iterate 2 refine BX ?_
   refine eO rfl (cK rfl rfl i rfl ha) ?_;refine af ?_;refine eO rfl (az rfl (hrow 0 _ rfl)) ?_;refine af ?_;refine eO rfl (az rfl (k53.cell (i:=1) rfl)) ?_;refine af ?_;refine aP (fun heq=>?_) (fun heq=>?_)
   · have heq:y.1=t:=aI heq;have hij:i=j:=Classical.byContradiction fun q=>hlast i y (by omega) hy heq
     subst hij;rw[hj] at hy;obtain rfl:=Option.some.inj hy;refine aR ?_;refine de ?_
     iterate 2 refine aZ ?_
     refine xp rfl (cK rfl rfl i rfl ha) ?_;refine af ?_;refine xp rfl (bV rfl (Av hrow)) ?_;refine aH rfl (aK rfl rfl k63 dX) ?_;rintro _ h4 ⟨rfl,k64,x4,z4⟩;refine af ?_;refine bF (br rfl k64.row bE) ?_;exact⟨_,rfl,qe (cG.of hRy),k3.ext x4 (by omega),E.aW x4 (fun b hb q=>by omega)⟩
   · have hne:i≠j:=fun q=>by
      subst q;rw[hj] at hy;obtain rfl:=Option.some.inj hy;exact heq rfl
     obtain⟨i',rfl⟩:∃i',i=i'+1:=⟨i-1,by omega⟩
     iterate 2 refine aR ?_
     refine dW [(9,.int .i64 (i':Nat))] rfl ?_ ?_
     · refine af ?_;exact aA rfl ⟨congrArg (fun x:Int=>some (Value.int .i64 x)) (show ((i'+1:Nat):Int)-1=((i':Nat):Int) by omega),sb rfl⟩
     · exact ih i' ⟨rfl,by omega,by omega⟩
abbrev fl (k n:Int) (s:By):Vl:=.mk k n s [] cj []
theorem gH (k n:Int) (s:By):vN (Jf k n s) k n s []:=fun g O=>Bf g O k n s
theorem II {s:Nat}(k:aC h rb 73 [.int .i64 (s:Nat),.int .i64 0]) (hs:s<=1900){ka na kb nb:Int}{sa sb op:By}
 (hv:aY eB h (fun b=>b=rb) ev [([97],fl ka na sa),([98],fl kb nb sb)]) (hn:cL h (fun b=>b=rb) nv (.mk 5 op [.mk 3 [97] [],.mk 3 [98] []])) (ho:op∈dB) (hna:gx na) (hnb:gx nb) (hsa:sa.length<=600) (hsb:sb.length<=600) :
 av Tryz.prog 53 #[.pointer (some ⟨rb,0,none⟩),ev,nv] h (bq fun r h'=>∃x y t e s',lu op (fl ka na sa) (fl kb nb sb)=(fl x y t,e)/\vN r x y t []/\aC h' rb 73 [.int .i64 s',.int .i64 e]/\Ext (fun b=>b=rb) h h'):=by
 obtain⟨ia,in',ic,rfl,hR,hks⟩:=iB hn;have hkl:=hks.len;have hkl:2=in':=hkl;subst hkl;have za:=aL sa;have zb:=aL sb;obtain⟨b0,o0,k0,t0,a0,n0,c0,ha0,hb0,hr0,hk0⟩:=fX hks (i:=0) (by decide);obtain⟨b1,o1,k1,t1,a1,n1,c1,ha1,hb1,hr1,hk1⟩:=fX hks (i:=1) (by decide);have hk0:cL h (fun b=>b=rb) (.agg #[.int .i64 k0,.string (bs t0),.slice a0 n0 c0]) (.mk 3 [97] []):=hk0;have hk1:cL h (fun b=>b=rb) (.agg #[.int .i64 k1,.string (bs t1),.slice a1 n1 c1]) (.mk 3 [98] []):=hk1;obtain⟨ea,en,ec,rfl,hos⟩:=id hv.open;have hrl:=k.lt
 have hla:∀(i:Nat) (y:Bd),0<i->[(([97],fl ka na sa):Bd),([98],fl kb nb sb)][i]? =some y->y.1≠[97]:=fun i y hi hy=>by
  match i,hi with
  | 1,_=>cases hy;intro q;have q1:=(List.cons.inj q).1;exact absurd q1 (by decide)
  |i+2,_=>simp at hy
 have hlb:∀(i:Nat) (y:Bd),1<i->[(([97],fl ka na sa):Bd),([98],fl kb nb sb)][i]? =some y->y.1≠[98]:=fun i y hi hy=>by
  match i,hi with
  |i+2,_=>simp at hy
 refine bP ?_;refine af ?_;refine xo rfl (iF) ?_;rintro _ h1 ⟨rfl,k5,e1,z1⟩;refine xo rfl (cm) ?_;rintro _ h2 ⟨rfl,k6,e2,z2⟩;have e12:=e1.trans e2;have z12:=e1.size;have z22:=e2.size;have k5:aC h2 h.size 38 [.int .i64 5,.string (bs op),.slice ia 2 ic]:=k5.ah e2;have k2:=k.ah e12;have E2:Ext (fun b=>b=rb) h h2:=e12.mono fun _ _ q=>q.elim
 have mk:∀{g:aj},Ext (fun b=>b=rb) h g->Mv (fun b=>b=rb) (fun b=>b=rb) h g:=fun e=>Mv.cg e fun b _ q=>⟨q,q⟩
 refine af ?_;refine xp rfl (az rfl (k5.cell (i:=2) rfl)) ?_;refine xp rfl (cK rfl rfl 0 rfl ha0 (by decide)) ?_;refine xp rfl (bV rfl (e12.rowAt (fun k=>k) hr0)) ?_;refine xo rfl (aF rfl (tN k2 (by omega) (hv.mv (mk E2)) (hk0.mv (mk E2)) (j:=0) rfl hla)) ?_;rintro va h3 ⟨fa,k3,x3⟩;obtain⟨nka,nta,pa,ma,ca,qa,wa,da,rfl⟩:=fa.agg;refine xo rfl (cm) ?_;rintro _ h4 ⟨rfl,k7,e4,z4⟩;refine aH rfl (aK rfl rfl k7 dX) ?_;rintro _ h5 ⟨rfl,k75,x5,z5⟩;have k75:aC h5 h3.size 41 (iG ka na sa [] nka nta pa ma ca qa wa da):=k75;have e35:aq h3 h5:=aq.only e4 x5 (Nat.le_refl _);have z35:=e35.size;have z23:=x3.size;have x25:Ext (fun b=>b=rb) h2 h5:=x3.trans (e35.mono fun _ _ q=>q.elim);have E5:Ext (fun b=>b=rb) h h5:=E2.trans x25;have k55:=k5.ext x25 (by omega);have k65:=k6.ext x25 (by omega);have k35:=k3.ah e35;have hr15:Lw.rowAt h5 b1 (o1+1*3) (lY k1 t1 a1 n1 c1):=E5.rowAt (by exact hb1.1) hr1;refine cV ?_
 iterate 2 refine aR ?_
 refine G.yx [(28,.bool (decide (op=l9\/op=jb)))] [(0,_),(1,_),(2,_),(5,_),(6,_),(7,_)] ⟨rfl,rfl,rfl,rfl,rfl,rfl,trivial⟩ func53 rfl ?_ ?_
 · refine xp rfl (bZ (off:=1) underlying38 rfl rfl H.zK rfl) ?_;refine xp rfl (cv H.Le rfl (k55.cell (i:=1) rfl)) ?_;refine xp rfl (ay.yZ rfl rfl) ?_;refine Fz 1 rfl ?_;refine dD (d:=24) rfl (fun p=>?_) (fun p=>?_)
   · have p:op=l9:=aI (of_decide_eq_true p);refine Fz 4 rfl ?_;refine eK rfl ?_;exact⟨rfl,ai rfl (by rw[decide_eq_true (.inl p)]),rfl,rfl,rfl,rfl,rfl,rfl,trivial⟩
   · have p:¬op=l9:=fun q=>of_decide_eq_false p (by rw[q];rfl)
     refine xp rfl (bZ (off:=1) underlying38 rfl rfl H.zK rfl) ?_;refine xp rfl (cv H.Le rfl (k55.cell (i:=1) rfl)) ?_;refine xp rfl (ay.yZ rfl rfl) ?_;refine Fz 1 rfl ?_;refine eK rfl ?_;exact⟨rfl,ai rfl (by rw[decide_eq_decide];exact⟨fun q=>.inr (aI q),fun q=>by rw[q.resolve_left p];rfl⟩),rfl,rfl,rfl,rfl,rfl,rfl,trivial⟩
 · refine fF (fun hoa=>?_) (fun hoa=>?_)
   · have hoa:=of_decide_eq_true hoa;refine af ?_;refine xp rfl (az rfl (k75.cell (i:=0) rfl)) ?_;refine af ?_;refine aP (fun hk=>?_) (fun hk=>?_)
     · refine af ?_;refine xo rfl (aF rfl (gP k35 2)) ?_;rintro _ g1 ⟨rfl,kr,xr⟩;refine aH rfl (aK rfl rfl ((k65.ext xr (by omega)))) ?_;rintro _ g2 ⟨rfl,kg,xg,zg⟩;refine af ?_;refine bF (br rfl kg.row bE) ?_;exact⟨_,rfl,_,_,_,_,_,(by unfold lu;rw[if_pos hoa];exact if_pos hk),gH _ _ _,kr.ext xg (by omega),((E5).trans xr).aW xg (fun b hb q=>by omega)⟩
     · have hor:decide (bs op=⟨#[111,114]⟩)=decide (op=l9):=by rw[decide_eq_decide];exact⟨fun q=>aI q,fun q=>by rw[q];rfl⟩
       refine af ?_;refine xp rfl (az rfl (k75.cell (i:=1) rfl)) ?_;refine af ?_;refine xp rfl (az rfl (k55.cell (i:=1) rfl)) ?_;refine af ?_;refine fF (fun hq=>?_) (fun hq=>?_)
       · have hq:decide (na≠0)=decide (op=l9):=by rw[<-hor];simpa using hq
         refine af ?_;refine xp rfl (bV rfl k75.row) ?_;refine aH rfl (aK rfl rfl k65 dX) ?_;rintro _ g2 ⟨rfl,kg,xg,zg⟩;refine af ?_;refine bF (br rfl kg.row bE) ?_;exact⟨_,rfl,_,_,_,_,_,(by unfold lu;rw[if_pos hoa];exact(if_neg hk).trans (if_pos hq)),fa,k35.ext xg (by omega),E5.aW xg (fun b hb q=>by omega)⟩
       · have hq:¬decide (na≠0)=decide (op=l9):=by rw[<-hor];simpa using hq
         refine af ?_;refine xp rfl (az rfl (k55.cell (i:=2) rfl)) ?_;refine xp rfl (cK rfl rfl 1 rfl ha1 (by decide)) ?_;refine xp rfl (bV rfl hr15) ?_;refine xo rfl (aF rfl (tN k35 (by omega) (hv.mv (mk E5)) (hk1.mv (mk E5)) (j:=1) rfl hlb)) ?_;rintro vb h6 ⟨fb,k36,x6⟩;obtain⟨nkb,ntb,pb,mb,cb,qb,wb,db,rfl⟩:=fb.agg;refine xo rfl (cm) ?_;rintro _ h7 ⟨rfl,k8,e7,z7⟩;refine aH rfl (aK rfl rfl k8 dX) ?_;rintro _ h8 ⟨rfl,k88,x8,z8⟩;have k88:aC h8 h6.size 41 (iG kb nb sb [] nkb ntb pb mb cb qb wb db):=k88;have e68:aq h6 h8:=aq.only e7 x8 (Nat.le_refl _);have z56:=x6.size;have z68:=e68.size;have x58:Ext (fun b=>b=rb) h5 h8:=x6.trans (e68.mono fun _ _ q=>q.elim);have E8:=E5.trans x58;have k58:=k55.ext x58 (by omega);have k68:=k65.ext x58 (by omega);have k78:=k75.ext x58 (by omega);have k38:=k36.ah e68;refine af ?_;refine xp rfl (az rfl (k88.cell (i:=0) rfl)) ?_;refine af ?_;refine aP (fun hk2=>?_) (fun hk2=>?_)
         · refine af ?_;refine xo rfl (aF rfl (gP k38 2)) ?_;rintro _ g1 ⟨rfl,kr,xr⟩;refine aH rfl (aK rfl rfl ((k68.ext xr (by omega)))) ?_;rintro _ g2 ⟨rfl,kg,xg,zg⟩;refine af ?_;refine bF (br rfl kg.row bE) ?_;exact⟨_,rfl,_,_,_,_,_,(by unfold lu;rw[if_pos hoa];exact((if_neg hk).trans (if_neg hq)).trans (if_pos hk2)),gH _ _ _,kr.ext xg (by omega),((E8).trans xr).aW xg (fun b hb q=>by omega)⟩
         · refine af ?_;refine xp rfl (bV rfl k88.row) ?_;refine aH rfl (aK rfl rfl k68 dX) ?_;rintro _ g2 ⟨rfl,kg,xg,zg⟩;refine af ?_;refine bF (br rfl kg.row bE) ?_;exact⟨_,rfl,_,_,_,_,_,(by unfold lu;rw[if_pos hoa];exact((if_neg hk).trans (if_neg hq)).trans (if_neg hk2)),fb,k38.ext xg (by omega),E8.aW xg (fun b hb q=>by omega)⟩
   · have hoa:=of_decide_eq_false hoa;have h2:lu op (fl ka na sa) (fl kb nb sb)=gQ op (fl ka na sa) (fl kb nb sb):=if_neg hoa;refine af ?_;refine xp rfl (az rfl (k55.cell (i:=2) rfl)) ?_;refine xp rfl (cK rfl rfl 1 rfl ha1 (by decide)) ?_;refine xp rfl (bV rfl hr15) ?_;refine xo rfl (aF rfl (tN k35 (by omega) (hv.mv (mk E5)) (hk1.mv (mk E5)) (j:=1) rfl hlb)) ?_;rintro vb h6 ⟨fb,k36,x6⟩;obtain⟨nkb,ntb,pb,mb,cb,qb,wb,db,rfl⟩:=fb.agg;refine xo rfl (cm) ?_;rintro _ h7 ⟨rfl,k8,e7,z7⟩;refine aH rfl (aK rfl rfl k8 dX) ?_;rintro _ h8 ⟨rfl,k88,x8,z8⟩;have k88:aC h8 h6.size 41 (iG kb nb sb [] nkb ntb pb mb cb qb wb db):=k88;have e68:aq h6 h8:=aq.only e7 x8 (Nat.le_refl _);have z56:=x6.size;have z68:=e68.size;have x58:Ext (fun b=>b=rb) h5 h8:=x6.trans (e68.mono fun _ _ q=>q.elim);have E8:=E5.trans x58;have k58:=k55.ext x58 (by omega);have k68:=k65.ext x58 (by omega);have k78:=k75.ext x58 (by omega);have k38:=k36.ah e68;refine xd [0,1,2,5,6,7,9,28] rfl ?_;refine sj rfl ?_;refine sj rfl ?_;refine G.yx [(71,.bool (decide (ka≠kb\/ka=4)))] [(0,_),(1,_),(2,_),(5,_),(6,_),(7,_),(9,_),(28,_)] ⟨rfl,rfl,rfl,rfl,rfl,rfl,rfl,rfl,trivial⟩ func53 rfl ?_ ?_
     · refine xp rfl (bZ (off:=0) underlying41 rfl rfl H.jM rfl) ?_;refine xp rfl (cv H.FB rfl (k78.cell (i:=0) rfl)) ?_;refine xp rfl (bZ (off:=0) underlying41 rfl rfl H.jM rfl) ?_;refine xp rfl (cv H.FB rfl (k88.cell (i:=0) rfl)) ?_;refine Fz 2 rfl ?_;refine dD (d:=67) rfl (fun p=>?_) (fun p=>?_)
       · have p:=of_decide_eq_true p;refine Fz 4 rfl ?_;refine eK rfl ?_;exact⟨rfl,ai rfl (by rw[decide_eq_true (.inl p)]),rfl,rfl,rfl,rfl,rfl,rfl,rfl,rfl,trivial⟩
       · have p:=of_decide_eq_false p;refine xp rfl (bZ (off:=0) underlying41 rfl rfl H.jM rfl) ?_;refine xp rfl (cv H.FB rfl (k78.cell (i:=0) rfl)) ?_;refine Fz 2 rfl ?_;refine eK rfl ?_;exact⟨rfl,ai rfl (by rw[decide_eq_decide];exact⟨.inr,fun q=>q.resolve_left p⟩),rfl,rfl,rfl,rfl,rfl,rfl,rfl,rfl,trivial⟩
     · refine fF (fun hk=>?_) (fun hk=>?_)
       · have hk:=of_decide_eq_true hk;refine af ?_;refine xo rfl (aF rfl (gP k38 2)) ?_;rintro _ g1 ⟨rfl,kr,xr⟩;refine aH rfl (aK rfl rfl ((k68.ext xr (by omega)))) ?_;rintro _ g2 ⟨rfl,kg,xg,zg⟩;refine af ?_;refine bF (br rfl kg.row bE) ?_;exact⟨_,rfl,_,_,_,_,_,(h2.trans (by unfold gQ;exact if_pos hk)),gH _ _ _,kr.ext xg (by omega),((E8).trans xr).aW xg (fun b hb q=>by omega)⟩
       · have hk:=of_decide_eq_false hk;have hkk:ka=kb:=Classical.byContradiction fun q=>hk (.inl q)
         have hk4:ka≠4:=fun q=>hk (.inr q)
         have h0:¬((fl ka na sa).kind≠(fl kb nb sb).kind\/(fl ka na sa).kind=4):=hk;refine af ?_;refine eO rfl (az rfl (k78.cell (i:=1) rfl)) ?_;refine af ?_;refine eO rfl (az rfl (k88.cell (i:=1) rfl)) ?_;refine af ?_;refine eO rfl (az rfl (k78.cell (i:=1) rfl)) ?_;refine af ?_;refine eO rfl (az rfl (k88.cell (i:=1) rfl)) ?_;refine af ?_;refine xp rfl (az rfl (k78.cell (i:=0) rfl)) ?_;refine af ?_
         have cmpd:∀(L S:Bool) (h':aj) (ρ':Env),Sub [(0,ptr rb),(5,ptr h.size),(6,ptr h1.size),(7,ptr h3.size),(9,ptr h6.size),(10,.bool L),(11,.bool S)] ρ'->h'=h8->JW op (fl ka na sa) (fl kb nb sb) L S->G Tryz.prog 53 f53 [.code [1,1,1,1,1,1,1]] ρ' h' (bq fun r h'=>∃x y t e s',lu op (fl ka na sa) (fl kb nb sb)=(fl x y t,e)/\vN r x y t []/\aC h' rb 73 [.int .i64 s',.int .i64 e]/\Ext (fun b=>b=rb) h h'):=by
          rintro L S g ρ' hsub hg hc;subst hg;refine G.sub (ρ':=[(0,ptr rb),(5,ptr h.size),(6,ptr h1.size),(7,ptr h3.size),(9,ptr h6.size),(10,.bool L),(11,.bool S)]) hsub ?_;refine af ?_;refine xp rfl (az rfl (k58.cell (i:=1) rfl)) ?_;refine af ?_;refine aP (fun c1=>?_) (fun c1=>?_)
          · have c1:op=[61,61]:=aI c1;refine af ?_;refine xo rfl (aF rfl (ga _)) ?_;rintro _ g1 ⟨rfl,eg⟩;refine aH rfl (aK rfl rfl ((k68.ah eg))) ?_;rintro _ g2 ⟨rfl,kg,xg,zg⟩;refine af ?_;refine bF (br rfl kg.row bE) ?_;have aR:=eg.size;exact⟨_,rfl,_,_,_,_,_,h2.trans (hc.eq c1),gH _ _ _,(k38.ah eg).ext xg (by omega),(E8.trans (eg.mono fun _ _ q=>q.elim)).aW xg (fun b hb q=>by omega)⟩
          · have c1:¬op=[61,61]:=fun q=>c1 (by rw[q];rfl)
            refine af ?_;refine aP (fun c2=>?_) (fun c2=>?_)
            · have c2:op=[33,61]:=aI c2;refine af ?_;refine xo rfl (aF rfl (ga _)) ?_;rintro _ g1 ⟨rfl,eg⟩;refine aH rfl (aK rfl rfl ((k68.ah eg))) ?_;rintro _ g2 ⟨rfl,kg,xg,zg⟩;refine af ?_;refine bF (br rfl kg.row bE) ?_;have aR:=eg.size;exact⟨_,rfl,_,_,_,_,_,h2.trans (hc.ne c2),gH _ _ _,(k38.ah eg).ext xg (by omega),(E8.trans (eg.mono fun _ _ q=>q.elim)).aW xg (fun b hb q=>by omega)⟩
            · have c2:¬op=[33,61]:=fun q=>c2 (by rw[q];rfl)
              iterate 4 refine aR ?_
              refine G.yx [(134,.bool (decide (ka=1\/ka=3)))] [(0,_),(5,_),(6,_),(7,_),(9,_),(10,_),(11,_),(117,_),(118,_),(122,_)] ⟨rfl,rfl,rfl,rfl,rfl,rfl,rfl,rfl,rfl,rfl,trivial⟩ func53 rfl ?_ ?_
              · refine xp rfl (bZ (off:=0) underlying41 rfl rfl H.jM rfl) ?_;refine xp rfl (cv H.FB rfl (k78.cell (i:=0) rfl)) ?_;refine Fz 2 rfl ?_;refine dD (d:=130) rfl (fun p=>?_) (fun p=>?_)
                · have p:=of_decide_eq_true p;refine Fz 4 rfl ?_;refine eK rfl ?_;exact⟨rfl,ai rfl (by rw[decide_eq_true (.inl p)]),rfl,rfl,rfl,rfl,rfl,rfl,rfl,rfl,rfl,rfl,trivial⟩
                · have p:=of_decide_eq_false p;refine xp rfl (bZ (off:=0) underlying41 rfl rfl H.jM rfl) ?_;refine xp rfl (cv H.FB rfl (k78.cell (i:=0) rfl)) ?_;refine Fz 2 rfl ?_;refine eK rfl ?_;exact⟨rfl,ai rfl (by rw[decide_eq_decide];exact⟨.inr,fun q=>q.resolve_left p⟩),rfl,rfl,rfl,rfl,rfl,rfl,rfl,rfl,rfl,rfl,trivial⟩
              · refine fF (fun h13=>?_) (fun h13=>?_)
                · have h13:=of_decide_eq_true h13;refine af ?_;refine xp rfl (az rfl (k58.cell (i:=1) rfl)) ?_;refine af ?_;refine aP (fun c3=>?_) (fun c3=>?_)
                  · have c3:op=[60]:=aI c3;refine af ?_;refine xo rfl (aF rfl (ga _)) ?_;rintro _ g1 ⟨rfl,eg⟩;refine aH rfl (aK rfl rfl ((k68.ah eg))) ?_;rintro _ g2 ⟨rfl,kg,xg,zg⟩;refine af ?_;refine bF (br rfl kg.row bE) ?_;have aR:=eg.size;exact⟨_,rfl,_,_,_,_,_,h2.trans (hc.lt h13 c3),gH _ _ _,(k38.ah eg).ext xg (by omega),(E8.trans (eg.mono fun _ _ q=>q.elim)).aW xg (fun b hb q=>by omega)⟩
                  · have c3:¬op=[60]:=fun q=>c3 (by rw[q];rfl)
                    refine af ?_;refine aP (fun c4=>?_) (fun c4=>?_)
                    · have c4:op=[60,61]:=aI c4;have hl:=hc.le h13 c4;cases L
                      · refine af ?_;refine RW.ck (d:=144) (b':=false) rfl (rfl) ?_;refine af ?_;refine xo rfl (aF rfl (ga _)) ?_;rintro _ g1 ⟨rfl,eg⟩;refine aH rfl (aK rfl rfl ((k68.ah eg))) ?_;rintro _ g2 ⟨rfl,kg,xg,zg⟩;refine af ?_;refine bF (br rfl kg.row bE) ?_;have aR:=eg.size;exact⟨_,rfl,_,_,_,_,_,h2.trans (hl),gH _ _ _,(k38.ah eg).ext xg (by omega),(E8.trans (eg.mono fun _ _ q=>q.elim)).aW xg (fun b hb q=>by omega)⟩
                      · refine af ?_;refine RW.ck (d:=144) (b':=true) rfl (rfl) ?_;refine af ?_;refine xo rfl (aF rfl (ga _)) ?_;rintro _ g1 ⟨rfl,eg⟩;refine aH rfl (aK rfl rfl ((k68.ah eg))) ?_;rintro _ g2 ⟨rfl,kg,xg,zg⟩;refine af ?_;refine bF (br rfl kg.row bE) ?_;have aR:=eg.size;exact⟨_,rfl,_,_,_,_,_,h2.trans (hl),gH _ _ _,(k38.ah eg).ext xg (by omega),(E8.trans (eg.mono fun _ _ q=>q.elim)).aW xg (fun b hb q=>by omega)⟩
                    · have c4:¬op=[60,61]:=fun q=>c4 (by rw[q];rfl)
                      refine af ?_;refine aP (fun c5=>?_) (fun c5=>?_)
                      · have c5:op=[62]:=aI c5;have hl:=hc.gt h13 c5;cases L
                        · refine af ?_;refine RW.ck (d:=152) (b':=true) rfl (rfl) ?_;refine af ?_;refine xo rfl (aF rfl (ga _)) ?_;rintro _ g1 ⟨rfl,eg⟩;refine aH rfl (aK rfl rfl ((k68.ah eg))) ?_;rintro _ g2 ⟨rfl,kg,xg,zg⟩;refine af ?_;refine bF (br rfl kg.row bE) ?_;have aR:=eg.size;exact⟨_,rfl,_,_,_,_,_,h2.trans (hl),gH _ _ _,(k38.ah eg).ext xg (by omega),(E8.trans (eg.mono fun _ _ q=>q.elim)).aW xg (fun b hb q=>by omega)⟩
                        · refine af ?_;refine RW.ck (d:=152) (b':=false) rfl (rfl) ?_;refine af ?_;refine xo rfl (aF rfl (ga _)) ?_;rintro _ g1 ⟨rfl,eg⟩;refine aH rfl (aK rfl rfl ((k68.ah eg))) ?_;rintro _ g2 ⟨rfl,kg,xg,zg⟩;refine af ?_;refine bF (br rfl kg.row bE) ?_;have aR:=eg.size;exact⟨_,rfl,_,_,_,_,_,h2.trans (hl),gH _ _ _,(k38.ah eg).ext xg (by omega),(E8.trans (eg.mono fun _ _ q=>q.elim)).aW xg (fun b hb q=>by omega)⟩
                      · have c5:¬op=[62]:=fun q=>c5 (by rw[q];rfl)
                        refine af ?_;refine aP (fun c6=>?_) (fun c6=>?_)
                        · have c6:op=[62,61]:=aI c6;refine af ?_;refine xo rfl (aF rfl (ga _)) ?_;rintro _ g1 ⟨rfl,eg⟩;refine aH rfl (aK rfl rfl ((k68.ah eg))) ?_;rintro _ g2 ⟨rfl,kg,xg,zg⟩;refine af ?_;refine bF (br rfl kg.row bE) ?_;have aR:=eg.size;exact⟨_,rfl,_,_,_,_,_,h2.trans (hc.ge h13 c6),gH _ _ _,(k38.ah eg).ext xg (by omega),(E8.trans (eg.mono fun _ _ q=>q.elim)).aW xg (fun b hb q=>by omega)⟩
                        · have c6:¬op=[62,61]:=fun q=>c6 (by rw[q];rfl)
                          refine af ?_;refine xp rfl (az rfl (k78.cell (i:=0) rfl)) ?_;refine af ?_;refine aP (fun hk1=>?_) (fun hk1=>?_)
                          · refine af ?_;refine xo rfl (aF rfl (gP k38 2)) ?_;rintro _ g1 ⟨rfl,kr,xr⟩;refine aH rfl (aK rfl rfl ((k68.ext xr (by omega)))) ?_;rintro _ g2 ⟨rfl,kg,xg,zg⟩;refine af ?_;refine bF (br rfl kg.row bE) ?_;exact⟨_,rfl,_,_,_,_,_,(h2.trans (hc.no hk1 ho hoa c1 c2 (fun _=>⟨c3,c4,c5,c6⟩))),gH _ _ _,kr.ext xg (by omega),((E8).trans xr).aW xg (fun b hb q=>by omega)⟩
                          · have hk1:ka=1:=Classical.not_not.1 hk1;have hnu:=h2.trans (hc.nu hk1);refine af ?_;refine xp rfl (az rfl (k58.cell (i:=1) rfl)) ?_;refine af ?_;refine xp rfl (az rfl (k78.cell (i:=1) rfl)) ?_;refine af ?_;refine xp rfl (az rfl (k88.cell (i:=1) rfl)) ?_;refine xo rfl (aF rfl (yy op na nb hna hnb (HV ho hoa c1 c2 c3 c4 c5 c6))) ?_;rintro _ _ ⟨⟨cc,ok,rfl,hok⟩,rfl⟩;refine af ?_;have hnu:=hnu.trans hok;refine fF (fun hb=>?_) (fun hb=>?_)
                            · refine af ?_;refine xo rfl (aF rfl (gP k38 2)) ?_;rintro _ g1 ⟨rfl,kr,xr⟩;refine aH rfl (aK rfl rfl ((k68.ext xr (by omega)))) ?_;rintro _ g2 ⟨rfl,kg,xg,zg⟩;refine af ?_;refine bF (br rfl kg.row bE) ?_;exact⟨_,rfl,_,_,_,_,_,(hnu.trans (by rw[show ok=false by simpa using hb];rfl)),gH _ _ _,kr.ext xg (by omega),((E8).trans xr).aW xg (fun b hb q=>by omega)⟩
                            · refine af ?_;refine xp rfl (au (H.BB _ _) rfl) ?_;refine aH rfl (aK rfl rfl k68) ?_;rintro _ g2 ⟨rfl,kg,xg,zg⟩;refine af ?_;refine bF (br rfl kg.row bE) ?_;exact⟨_,rfl,_,_,_,_,_,(hnu.trans (by rw[show ok=true by simpa using hb];rfl)),gH _ _ _,k38.ext xg (by omega),E8.aW xg (fun b hb q=>by omega)⟩
                · have h13:=of_decide_eq_false h13;refine af ?_;refine xp rfl (az rfl (k78.cell (i:=0) rfl)) ?_;refine af ?_;refine eu rfl (by simpa using fun q=>h13 (.inl q)) ?_;refine af ?_;refine xo rfl (aF rfl (gP k38 2)) ?_;rintro _ g1 ⟨rfl,kr,xr⟩;refine aH rfl (aK rfl rfl ((k68.ext xr (by omega)))) ?_;rintro _ g2 ⟨rfl,kg,xg,zg⟩;refine af ?_;refine bF (br rfl kg.row bE) ?_;exact⟨_,rfl,_,_,_,_,_,(h2.trans (hc.no (fun q=>h13 (.inl q)) ho hoa c1 c2 (fun q=>absurd (.inr q) h13))),gH _ _ _,kr.ext xg (by omega),((E8).trans xr).aW xg (fun b hb q=>by omega)⟩
         refine aP (fun hk3=>?_) (fun hk3=>?_)
         · refine af ?_;refine eO rfl (az rfl (k78.cell (i:=2) rfl)) ?_;refine af ?_;refine eO rfl (az rfl (k88.cell (i:=2) rfl)) ?_;refine eO rfl (ay.KU rfl rfl) ?_;refine af ?_;refine eO rfl (az rfl (k78.cell (i:=2) rfl)) ?_;refine af ?_;refine eO rfl (az rfl (k88.cell (i:=2) rfl)) ?_;refine af ?_;refine xp rfl (az rfl (k58.cell (i:=1) rfl)) ?_;refine af ?_;refine aP (fun hp=>?_) (fun hp=>?_)
           · have hp:op=[43]:=aI hp
             have hbin:gQ op (fl ka na sa) (fl kb nb sb)=if 1000<sa.length+sb.length then (gp,3) else (IB (sa++sb),0):=by
              unfold gQ;rw[if_neg h0,if_neg (by show ¬ka=1;omega),if_pos ⟨hk3,hp⟩];rfl
             have hbin:=h2.trans hbin;refine af ?_;refine xp rfl (az rfl (k78.cell (i:=2) rfl)) ?_;refine af ?_;refine xp rfl (az rfl (k88.cell (i:=2) rfl)) ?_;refine af ?_;refine aP (fun hl=>?_) (fun hl=>?_)
             · refine af ?_;refine xo rfl (aF rfl (gP k38 3)) ?_;rintro _ g1 ⟨rfl,kr,xr⟩;refine aH rfl (aK rfl rfl ((k68.ext xr (by omega)))) ?_;rintro _ g2 ⟨rfl,kg,xg,zg⟩;refine af ?_;refine bF (br rfl kg.row bE) ?_;exact⟨_,rfl,_,_,_,_,_,(hbin.trans (if_pos (by omega))),gH _ _ _,kr.ext xg (by omega),((E8).trans xr).aW xg (fun b hb q=>by omega)⟩
             · refine af ?_;refine xp rfl (az rfl (k78.cell (i:=2) rfl)) ?_;refine af ?_;refine xp rfl (az rfl (k88.cell (i:=2) rfl)) ?_;refine aZ ?_;rw[iX];refine xp rfl (au (H.HN _ _) rfl) ?_;refine aH rfl (aK rfl rfl k68) ?_;rintro _ g2 ⟨rfl,kg,xg,zg⟩;refine af ?_;refine bF (br rfl kg.row bE) ?_;exact⟨_,rfl,_,_,_,_,_,(hbin.trans (if_neg (by omega))),gH _ _ _,k38.ext xg (by omega),E8.aW xg (fun b hb q=>by omega)⟩
           · have hp:¬op=[43]:=fun q=>hp (by rw[q];rfl)
             have hc:JW op (fl ka na sa) (fl kb nb sb) (Op.bytesLess (bs sa).data.toList (bs sb).data.toList) (decide (bs sa=bs sb)):=by
              rw[ig,ig,show decide (bs sa=bs sb)=decide (sa=sb) by rw[decide_eq_decide];exact⟨fun q=>aI q,fun q=>by rw[q]⟩];exact Jv (op:=op) (a:=fl ka na sa) (b:=fl kb nb sb) hkk hk3 hp
             refine aR ?_;exact cmpd _ _ _ _ ⟨rfl,rfl,rfl,rfl,rfl,rfl,rfl,trivial⟩ rfl hc
         · have hc:=Jw (op:=op) (a:=fl ka na sa) (b:=fl kb nb sb) hkk hk4 hk3;refine aR ?_;exact cmpd _ _ _ _ ⟨rfl,rfl,rfl,rfl,rfl,rfl,rfl,trivial⟩ rfl hc
theorem zj (ih:Lq hb rb B d) (I:o7 hb rb B O h m ev env) (hm:m<=d) (hn:cL h O nv (.mk 6 t l)) (hc:Cl aS (.mk 6 t l)) (hw:(Tr.mk 6 t l).wt<=1000000) :
 av Tryz.prog 44 #[.pointer (some ⟨rb,0,none⟩),ev,nv] h (bq fun r h'=>Kt rb O h (Nw (bp d) m env l) r h'):=by
 obtain⟨na,nn,nc,rfl,hR,hks⟩:=iB hn;have hkn:=hks.len;subst hkn;obtain⟨hl1,hl2⟩:=uZ hc (by decide);have hl1:3<=l.length:=hl1;obtain⟨b0,o0,k0,t0,a0,n0,c0,ha0,hb0,hr0,hk0⟩:=fX hks (i:=0) (by omega);have hrl:=I.BT;refine bP ?_;refine af ?_;refine xo rfl (iF) ?_;rintro _ h1 ⟨rfl,k5,e1,z1⟩;refine xo rfl (cm) ?_;rintro _ h2 ⟨rfl,k6,e2,z2⟩;have e12:=e1.trans e2;have k5:aC h2 h.size 27 [.int .i64 6,.string (bs t),.slice na l.length nc]:=k5.ah e2;have m2:=cz O h h2;have I2:=I.wQ m2 e12 (iN I.lt e12.size);have o1:=iQ B d m env (l.getD 0 cj) I.mB I.ok (cH hw 0);have hih:=ih I2 hm (hk0.mv (m2.rI e12)) (hc.xm 0) (cH hw 0);unfold Nw;generalize bp d m env (l.getD 0 cj)=o at hih o1 ⊢;obtain⟨v,e,m'⟩:=o;obtain⟨hm',hvk,hlt⟩:=o1;dsimp only at hm' hvk hlt ⊢;refine af ?_;refine xp rfl (az rfl (k5.cell (i:=2) rfl)) ?_;refine xp rfl (cK rfl rfl 0 rfl ha0) ?_;refine xp rfl (bV rfl (e12.rowAt (fun k=>k) hr0)) ?_;refine xo rfl (aF rfl hih) ?_;rintro _ h3 ⟨v3,rfl,hv3,b3,e3⟩;dsimp only at hv3 b3;obtain⟨nk,nt,xa,xn,xc,ea,en,ec,rfl,hbd3,hR3,hen3⟩:=cG.get hv3;refine af ?_;refine xo rfl (cm) ?_;rintro _ h4 ⟨rfl,k8,e4,z4⟩;refine aH rfl (aK rfl rfl k8 dX) ?_;rintro _ h5 ⟨rfl,k85,x5,z5⟩;have k85:aC h5 h3.size 30 (iG v.kind v.num v.fO v.self nk nt xa xn xc ea en ec):=k85;have e35:aq h3 h5:=aq.only e4 x5 (Nat.le_refl _);have E25:Ext (fun b=>b=rb) h2 h5:=e3.trans (e35.mono fun _ _ q=>q.elim);have E05:Ext (fun b=>b=rb) h h5:=(e12.mono fun _ _ q=>q.elim).trans E25;have zz:=And.intro e3.size (And.intro e35.size e12.size);have m23:=cz (upTo O h h2) h3 h5;obtain⟨O3,hO3⟩:∃O3,O3=upTo (upTo O h h2) h3 h5:=⟨_,rfl⟩
 have l3:∀b,O3 b->b<h5.size:=fun b q=>by
  rw[hO3] at q
  rcases q with (q|q)|q
  · have:=I.lt b q;omega
  · omega
  · omega
 have m3:iV h O O3:=by
  rw[hO3]
  exact⟨fun b q=>.inl (.inl q),fun b q=>by
   rcases q with (q|q)|q
   · exact .inl q
   · exact .inr q.1
   · exact .inr (by omega)⟩
 have b5:=b3.ah e35;have hR5:=eV.mv hR3 (m23.rI e35);rw[<-hO3] at hR5;have hbd5:=eN.mv hbd3 (m23.rI e35);rw[<-hO3] at hbd5;have hen5:=hen3.mv (m23.rI e35);rw[<-hO3] at hen5;have o6:O3 h1.size:=by rw[hO3];exact .inl (.inr (by omega))
 have k55:=k5.ext E25 (by omega);have k65:=k6.ext E25 (by omega);have I5:o7 hb rb B O3 h5 m' ev env:=I.next m3 hm' E05 b5 l3
 refine af ?_;refine aP (fun he=>?_) (fun he=>?_)
 · rw[if_pos he];refine af ?_;refine xp rfl (au (H.dJ ) rfl) ?_;refine af ?_;refine aH rfl (aK rfl rfl k65) ?_;rintro _ h6 ⟨rfl,k66,x6,z6⟩;refine af ?_;refine bF (br rfl k66.row (dM bE)) ?_;exact⟨_,rfl,_,rfl,gE _ _,b5.ext x6 (by omega),E05.aW x6 (fun b hb q=>by omega)⟩
 · rw[if_neg he];refine af ?_;refine xp rfl (az rfl (k85.cell (i:=0) rfl)) ?_;refine af ?_;refine aP (fun hk=>?_) (fun hk=>?_)
   · rw[if_pos hk];refine af ?_;refine xp rfl (au (H.dJ ) rfl) ?_;refine aH rfl (aK rfl rfl k65) ?_;rintro _ h6 ⟨rfl,k66,x6,z6⟩;refine af ?_;refine bF (br rfl k66.row (dM bE)) ?_;exact⟨_,rfl,_,rfl,gE _ _,b5.ext x6 (by omega),E05.aW x6 (fun b hb q=>by omega)⟩
   · rw[if_neg hk];refine af ?_;refine xp rfl (az rfl (k85.cell (i:=1) rfl)) ?_;refine af ?_;refine aP (fun hz=>?_) (fun hz=>?_)
     · rw[if_pos hz];obtain⟨b1,o1',k1,t1,a1,n1,c1,ha1,hb1,hr1,hk1⟩:=fX hks (i:=1) (by omega);have hb1r:b1≠rb:=fun q=>hb1.1 (q▸I.own)
       have hr1':=E05.rowAt hb1r hr1;have hk1':=hk1.mv (m3.mv I.own E05);refine af ?_;refine xp rfl (az rfl (k55.cell (i:=2) rfl)) ?_;refine xp rfl (cK rfl rfl 1 rfl ha1) ?_;refine xp rfl (bV rfl hr1') ?_;refine xo rfl (aF rfl ((ih I5 (by omega) hk1' (hc.xm 1) (cH hw 1)))) ?_;rintro _ h8 ⟨v8,rfl,hv8,b8,e8⟩;obtain⟨nk',nt',xa',xn',xc',ea',en',ec',rfl,_,hR8,_⟩:=cG.get hv8;refine af ?_;refine aH rfl (aK rfl rfl ((k65.ext e8 (by omega))) dX) ?_;rintro _ h9 ⟨rfl,k9,x9,z9⟩;refine af ?_;refine bF (br rfl k9.row (dM bE)) ?_;exact⟨_,rfl,_,rfl,cG.of (eV.mv hR8 (cC m3.1 o6 x9)),b8.ext x9 (by omega),(E05.trans e8).aW x9 (fun b hb q=>by omega)⟩
     · rw[if_neg hz];obtain⟨b1,o1',k1,t1,a1,n1,c1,ha1,hb1,hr1,hk1⟩:=fX hks (i:=2) (by omega);have hb1r:b1≠rb:=fun q=>hb1.1 (q▸I.own)
       have hr1':=E05.rowAt hb1r hr1;have hk1':=hk1.mv (m3.mv I.own E05);refine af ?_;refine xp rfl (az rfl (k55.cell (i:=2) rfl)) ?_;refine xp rfl (cK rfl rfl 2 rfl ha1) ?_;refine xp rfl (bV rfl hr1') ?_;refine xo rfl (aF rfl ((ih I5 (by omega) hk1' (hc.xm 2) (cH hw 2)))) ?_;rintro _ h8 ⟨v8,rfl,hv8,b8,e8⟩;obtain⟨nk',nt',xa',xn',xc',ea',en',ec',rfl,_,hR8,_⟩:=cG.get hv8;refine af ?_;refine aH rfl (aK rfl rfl ((k65.ext e8 (by omega))) dX) ?_;rintro _ h9 ⟨rfl,k9,x9,z9⟩;refine af ?_;refine bF (br rfl k9.row (dM bE)) ?_;exact⟨_,rfl,_,rfl,cG.of (eV.mv hR8 (cC m3.1 o6 x9)),b8.ext x9 (by omega),(E05.trans e8).aW x9 (fun b hb q=>by omega)⟩
theorem nK {b:Nat}{t:TypeId}{a c m:List Value}(k:aC h b t (a++(m++c))):Lw.rowAt h b a.length m:=fun j v hv=>k.cell (i:=a.length+j) (by
 rw[List.getElem?_append_right (by omega),Nat.add_sub_cancel_left,List.getElem?_append_left (List.getElem?_eq_some_iff.1 hv).1];exact hv)
theorem HC {m1 m2:Nat}{f x:Vl}(a2:okV (B-2*m1) f) (b2:okV (B-2*m2) x) (h1:m1<m) (h2:m2<m1) (hB:2*m<=B):vZ (B-2*m2) ((if f.self≠[] then f.env++[(f.self,f)] else f.env)++[(f.fO,x)]):=by
 obtain⟨_,f2,f3⟩:=a2.get;split
 · refine⟨?_,fun p hp=>?_⟩
   · rw[List.length_append,List.length_append];have:=f3.1;simp;omega
   · rcases List.mem_append.1 hp with hp|hp
     · rcases List.mem_append.1 hp with hp|hp
       · exact(f3.2 p hp).le (by omega)
       · simp at hp;subst hp;exact a2.le (by omega)
     · simp at hp;subst hp;exact b2
 · exact kM f3 h2 (by omega) b2 f.fO
theorem CW (hg:Iq hb) (ih:Lq hb rb B d) (I:o7 hb rb B O h m ev env) (hm:m<=d) (hn:cL h O nv (.mk 9 t l)) (hc:Cl aS (.mk 9 t l)) (hw:(Tr.mk 9 t l).wt<=1000000) :
 av Tryz.prog 45 #[.pointer (some ⟨rb,0,none⟩),ev,nv] h (bq fun r h'=>Kt rb O h (DK (bp d) m env l) r h'):=by
 obtain⟨na,nn,nc,rfl,hR,hks⟩:=iB hn;have hkn:=hks.len;subst hkn;obtain⟨hl1,hl2⟩:=uZ hc (by decide);have hl1:2<=l.length:=hl1;obtain⟨b0,o0,k0,t0,a0,n0,c0,ha0,hb0,hr0,hk0⟩:=fX hks (i:=0) (by omega);have hrl:=I.BT;refine bP ?_;refine af ?_;refine xo rfl (iF) ?_;rintro _ h1 ⟨rfl,k5,e1,z1⟩;refine xo rfl (cm) ?_;rintro _ h2 ⟨rfl,k6,e2,z2⟩;have e12:=e1.trans e2;have k5:aC h2 h.size 27 [.int .i64 9,.string (bs t),.slice na l.length nc]:=k5.ah e2;have m2:=cz O h h2;have I2:=I.wQ m2 e12 (iN I.lt e12.size);have o1:=iQ B d m env (l.getD 0 cj) I.mB I.ok (cH hw 0);have hih:=ih I2 hm (hk0.mv (m2.rI e12)) (hc.xm 0) (cH hw 0);unfold DK;generalize bp d m env (l.getD 0 cj)=o at hih o1 ⊢;obtain⟨v,e,m'⟩:=o;obtain⟨hm',hvk,hlt⟩:=o1;dsimp only at hm' hvk hlt ⊢;refine af ?_;refine xp rfl (az rfl (k5.cell (i:=2) rfl)) ?_;refine xp rfl (cK rfl rfl 0 rfl ha0) ?_;refine xp rfl (bV rfl (e12.rowAt (fun k=>k) hr0)) ?_;refine xo rfl (aF rfl hih) ?_;rintro _ h3 ⟨v3,rfl,hv3,b3,e3⟩;dsimp only at hv3 b3;obtain⟨nk,nt,xa,xn,xc,ea,en,ec,rfl,hbd3,hR3,hen3⟩:=cG.get hv3;refine af ?_;refine xo rfl (cm) ?_;rintro _ h4 ⟨rfl,k8,e4,z4⟩;refine aH rfl (aK rfl rfl k8 dX) ?_;rintro _ h5 ⟨rfl,k85,x5,z5⟩;have k85:aC h5 h3.size 30 (iG v.kind v.num v.fO v.self nk nt xa xn xc ea en ec):=k85;have e35:aq h3 h5:=aq.only e4 x5 (Nat.le_refl _);have E25:Ext (fun b=>b=rb) h2 h5:=e3.trans (e35.mono fun _ _ q=>q.elim);have E05:Ext (fun b=>b=rb) h h5:=(e12.mono fun _ _ q=>q.elim).trans E25;have zz:=And.intro e3.size (And.intro e35.size e12.size);have m23:=cz (upTo O h h2) h3 h5;obtain⟨O3,hO3⟩:∃O3,O3=upTo (upTo O h h2) h3 h5:=⟨_,rfl⟩
 have l3:∀b,O3 b->b<h5.size:=fun b q=>by
  rw[hO3] at q
  rcases q with (q|q)|q
  · have:=I.lt b q;omega
  · omega
  · omega
 have m3:iV h O O3:=by
  rw[hO3]
  exact⟨fun b q=>.inl (.inl q),fun b q=>by
   rcases q with (q|q)|q
   · exact .inl q
   · exact .inr q.1
   · exact .inr (by omega)⟩
 have b5:=b3.ah e35;have hR5:=eV.mv hR3 (m23.rI e35);rw[<-hO3] at hR5;have hbd5:=eN.mv hbd3 (m23.rI e35);rw[<-hO3] at hbd5;have hen5:=hen3.mv (m23.rI e35);rw[<-hO3] at hen5;have o6:O3 h1.size:=by rw[hO3];exact .inl (.inr (by omega))
 have k55:=k5.ext E25 (by omega);have k65:=k6.ext E25 (by omega);have I5:o7 hb rb B O3 h5 m' ev env:=I.next m3 hm' E05 b5 l3
 refine af ?_;refine aP (fun he=>?_) (fun he=>?_)
 · rw[if_pos he];refine af ?_;refine xp rfl (au (H.dJ ) rfl) ?_;refine af ?_;refine aH rfl (aK rfl rfl k65) ?_;rintro _ h6 ⟨rfl,k66,x6,z6⟩;refine af ?_;refine bF (br rfl k66.row (dM bE)) ?_;exact⟨_,rfl,_,rfl,gE _ _,b5.ext x6 (by omega),E05.aW x6 (fun b hb q=>by omega)⟩
 · rw[if_neg he];have hlt:=hlt (Classical.not_not.1 he);obtain⟨b1,o1',k1,t1,a1,n1,c1,ha1,hb1,hr1,hk1⟩:=fX hks (i:=1) (by omega);have hb1r:b1≠rb:=fun q=>hb1.1 (q▸I.own)
   have hr1':=E05.rowAt hb1r hr1;have hk1':=hk1.mv (m3.mv I.own E05);have o2:=iQ B d m' env (l.getD 1 cj) I5.mB I5.ok (cH hw 1);have hih2:=ih I5 (by omega) hk1' (hc.xm 1) (cH hw 1);generalize bp d m' env (l.getD 1 cj)=p at hih2 o2 ⊢;obtain⟨v2,e2',m2'⟩:=p;obtain⟨hm2,hvk2,hlt2⟩:=o2;dsimp only at hm2 hvk2 hlt2 ⊢;refine af ?_;refine xp rfl (az rfl (k55.cell (i:=2) rfl)) ?_;refine xp rfl (cK rfl rfl 1 rfl ha1) ?_;refine xp rfl (bV rfl hr1') ?_;refine xo rfl (aF rfl hih2) ?_;rintro _ h6 ⟨v6,rfl,hv6,b6,e6⟩;dsimp only at hv6 b6;obtain⟨nk2,nt2,ya,yn,yc,fa,fm,fc,rfl,_,hR6,_⟩:=cG.get hv6;refine af ?_;refine xo rfl (cm) ?_;rintro _ h7 ⟨rfl,k10,e7,z7⟩;refine aH rfl (aK rfl rfl k10 dX) ?_;rintro _ h8 ⟨rfl,k10',x8,z8⟩;have k10':aC h8 h6.size 30 (iG v2.kind v2.num v2.fO v2.self nk2 nt2 ya yn yc fa fm fc):=k10';have e68:aq h6 h8:=aq.only e7 x8 (Nat.le_refl _);have E58:Ext (fun b=>b=rb) h5 h8:=e6.trans (e68.mono fun _ _ q=>q.elim);have E08:=E05.trans E58;have zw:=And.intro e6.size e68.size;obtain⟨O6,hO6⟩:∃O6,O6=upTo O3 h6 h8:=⟨_,rfl⟩
   have l6:∀b,O6 b->b<h8.size:=fun b q=>by
    rw[hO6] at q
    rcases q with q|q
    · have:=l3 b q;omega
    · omega
   have m56:iV h5 O3 O6:=by rw[hO6];exact⟨fun b q=>.inl q,fun b q=>q.imp id (fun q=>by omega)⟩
   have m6:iV h O O6:=⟨fun b q=>m56.1 b (m3.1 b q),fun b q=>(m56.2 b q).elim (m3.2 b) (fun q=>.inr (by omega))⟩
   have b8:=b6.ah e68;have hR8:=eV.mv hR6 ((cz O3 h6 h8).rI e68);rw[<-hO6] at hR8;have hr3:=m3.1 _ I.own;have hR58:=eV.mv hR5 (m56.mv hr3 E58);have o66:=m56.1 _ o6;have k58:=k55.ext E58 (by omega);have k68:=k65.ext E58 (by omega);have k88:=k85.ext E58 (by have:=I2.BT;omega);have I8:o7 hb rb B O6 h8 m2' ev env:=I5.next m56 hm2 E58 b8 l6
   refine af ?_;refine aP (fun he2=>?_) (fun he2=>?_)
   · rw[if_pos he2];refine af ?_;refine xp rfl (au (H.dJ ) rfl) ?_;refine af ?_;refine aH rfl (aK rfl rfl k68) ?_;rintro _ h9 ⟨rfl,k66,x9,z9⟩;refine af ?_;refine bF (br rfl k66.row (dM bE)) ?_;exact⟨_,rfl,_,rfl,gE _ _,b8.ext x9 (by omega),E08.aW x9 (fun b hb q=>by omega)⟩
   · rw[if_neg he2];have hlt2:=hlt2 (Classical.not_not.1 he2);refine af ?_;refine xp rfl (az rfl (k88.cell (i:=0) rfl)) ?_;refine af ?_;refine aP (fun hk=>?_) (fun hk=>?_)
     · rw[if_pos hk];refine af ?_;refine xp rfl (au (H.dJ ) rfl) ?_;refine aH rfl (aK rfl rfl k68) ?_;rintro _ h9 ⟨rfl,k66,x9,z9⟩;refine af ?_;refine bF (br rfl k66.row (dM bE)) ?_;exact⟨_,rfl,_,rfl,gE _ _,b8.ext x9 (by omega),E08.aW x9 (fun b hb q=>by omega)⟩
     · rw[if_neg hk];obtain⟨f1,f2,f3⟩:=hvk.get;have hbd8:=eN.mv hbd5 (m56.mv hr3 E58);have hen8:=hen5.mv (m56.mv hr3 E58);have r4:Lw.rowAt h8 h3.size 4 [.int .i64 nk,.string (bs nt),.slice xa xn xc]:=nK (a:=[_,_,_,_]) (m:=[_,_,_]) (c:=[_]) k88;refine af ?_;refine xp rfl (bV rfl r4) ?_;refine xo rfl (aF rfl (rq f2 (hg.ah I8.ext) (cL.of hbd8))) ?_;rintro _ h9 ⟨rfl,e9⟩;have k69:=k68.ah e9;have k89:=k88.ah e9;have E09:=E08.trans (e9.mono fun _ _ q=>q.elim);have z9:=e9.size;refine af ?_;refine fF (fun hq=>?_) (fun hq=>?_)
       · have hq:bQ aS v.body=false:=by simpa using hq
         rw[if_pos hq];refine af ?_;refine xp rfl (au (H.dJ ) rfl) ?_;refine aH rfl (aK rfl rfl k69) ?_;rintro _ h10 ⟨rfl,k66,x10,z10⟩;refine af ?_;refine bF (br rfl k66.row (dM bE)) ?_;exact⟨_,rfl,_,rfl,gE _ _,(b8.ah e9).ext x10 (by omega),E09.aW x10 (fun b hb q=>by omega)⟩
       · have hq:bQ aS v.body=true:=by simpa using hq
         rw[if_neg (by rw[hq];decide)];have hce:=HC hvk hvk2 hlt hlt2 I.mB;have m69:iV h8 O6 O6:=⟨fun _ q=>q,fun _ q=>.inl q⟩
         have hen9:=hen8.mv (Mv.ah e9);have hbd9:=eN.mv hbd8 (Mv.ah e9);have hRf9:=eV.mv hR58 (Mv.ah e9);have hRx9:=eV.mv hR8 (Mv.ah e9);have hB:=I.hB;have hvl:=f3.1;have h3r:h3.size≠rb:=by have:=I2.BT;omega
         have h6r:h6.size≠rb:=by have:=I5.BT;omega
         refine af ?_;refine xp rfl (az rfl (k89.cell (i:=7) rfl)) ?_;refine af ?_;refine xp rfl (az rfl (k89.cell (i:=3) rfl)) ?_;refine af ?_;refine aP (fun hs=>?_) (fun hs=>?_)
         · have hs:v.self≠[]:=fun q=>hs (by rw[q];rfl)
           rw[if_pos hs] at hce ⊢;refine af ?_;refine xp rfl (az rfl (k89.cell (i:=3) rfl)) ?_;refine xp rfl (bV rfl k89.row) ?_;refine xo rfl (aF rfl (iY hen9 (by omega) v.self (cG.of hRf9))) ?_;rintro r10 h10 ⟨ho10,e10⟩;have hen10:=ho10.read (O':=O6) (fun b hb q=>by have:=l6 b q;omega) (fun _ _ q=>q);have hM8:¬(h3.size=rb\/h10.size<=h3.size):=by have:=e10.size;omega
           have hM6:¬(h6.size=rb\/h10.size<=h6.size):=by have:=e10.size;omega
           have k8x:=k89.ah e10;have k10x:=(k10'.ah e9).ah e10;have r4x:Lw.rowAt h10 h3.size 4 [.int .i64 nk,.string (bs nt),.slice xa xn xc]:=nK (a:=[_,_,_,_]) (m:=[_,_,_]) (c:=[_]) k8x;refine af ?_;refine kH 13 (fun b=>b=rb\/h10.size<=b) (fun i=>Nat.blt i 11) ?_;refine aG 0 ?_;refine aG 1 ?_;refine aG 2 ?_;refine bC 3 rfl (fun h' e=>az rfl (e.cell hM8 (k8x.cell (i:=2) rfl))) ?_;refine bC 4 rfl (fun h' e=>bV rfl (e.rowAt hM6 k10x.row)) ?_;refine aG 6 ?_;refine bC 7 rfl (fun h' e=>bV rfl (e.rowAt hM8 r4x)) ?_;refine cU 5 rfl (aF rfl (iY hen10 (by rw[List.length_append,List.length_singleton];omega) v.fO (cG.of (eV.mv hRx9 (Mv.ah e10))))) ?_;rintro r11 h11 ⟨ho11,e11⟩;refine⟨fun _=>e11.of,?_⟩;have zv:=And.intro (e10).size (e11).size;have E9x:aq h9 h11:=(e10).trans e11;have E0x:=E09.trans (E9x.mono fun _ _ q=>q.elim);have Ix:o7 hb rb B O6 h11 m2' r11 (_++[(v.fO,v2)]):=⟨(I8.ext.trans e9).trans E9x,(b8.ah e9).ah E9x,fun b q=>by have:=l6 b q;omega,m56.1 _ hr3,(ho11).read (fun b hb q=>by have:=l6 b q;omega) (fun _ _ q=>q),hce,by have:=I.mB;omega,by have:=I.mL;omega,I.hB,I.hrb⟩
           refine cU 8 rfl (aF rfl ((ih Ix (by omega) (cL.of (eN.mv hbd9 (Mv.ah E9x))) (.inl hq) f2))) ?_;rintro _ h12 ⟨v12,rfl,hv12,b12,e12'⟩;refine⟨fun _=>e12'.mono (fun b _ q=>.inl q),?_⟩;obtain⟨nk',nt',xa',xn',xc',ea',en',ec',rfl,_,hR12,_⟩:=cG.get hv12;refine aG 9 ?_;refine aG 10 ?_;refine iA 11 rfl (aK rfl rfl (((k69.ah E9x).ext e12' (by omega))) dX) ?_;rintro _ h13 ⟨rfl,k13,x13,z13⟩;refine⟨nofun,?_⟩;refine aG 12 ?_;refine gV ?_;refine bF (br rfl k13.row (dM bE)) ?_;exact⟨_,rfl,_,rfl,cG.of (eV.mv hR12 (cC m6.1 o66 x13)),b12.ext x13 (by omega),(E0x.trans e12').aW x13 (fun b hb q=>by omega)⟩
         · have hs:¬v.self≠[]:=fun q=>hs (fun e=>q (aI (m:=[]) e))
           rw[if_neg hs] at hce ⊢;have hM8:¬(h3.size=rb\/h9.size<=h3.size):=by omega
           have hM6:¬(h6.size=rb\/h9.size<=h6.size):=by omega
           have k10x:=k10'.ah e9;have r4x:Lw.rowAt h9 h3.size 4 [.int .i64 nk,.string (bs nt),.slice xa xn xc]:=nK (a:=[_,_,_,_]) (m:=[_,_,_]) (c:=[_]) k89;refine af ?_;refine kH 13 (fun b=>b=rb\/h9.size<=b) (fun i=>Nat.blt i 11) ?_;refine aG 0 ?_;refine aG 1 ?_;refine aG 2 ?_;refine bC 3 rfl (fun h' e=>az rfl (e.cell hM8 (k89.cell (i:=2) rfl))) ?_;refine bC 4 rfl (fun h' e=>bV rfl (e.rowAt hM6 k10x.row)) ?_;refine aG 6 ?_;refine bC 7 rfl (fun h' e=>bV rfl (e.rowAt hM8 r4x)) ?_;refine cU 5 rfl (aF rfl (iY hen9 (by omega) v.fO (cG.of hRx9))) ?_;rintro r11 h11 ⟨ho11,e11⟩;refine⟨fun _=>e11.of,?_⟩;have zv:=And.intro (Ext.refl (fun _=>False) h9).size (e11).size;have E9x:aq h9 h11:=(Ext.refl (fun _=>False) h9).trans e11;have E0x:=E09.trans (E9x.mono fun _ _ q=>q.elim);have Ix:o7 hb rb B O6 h11 m2' r11 (_++[(v.fO,v2)]):=⟨(I8.ext.trans e9).trans E9x,(b8.ah e9).ah E9x,fun b q=>by have:=l6 b q;omega,m56.1 _ hr3,(ho11).read (fun b hb q=>by have:=l6 b q;omega) (fun _ _ q=>q),hce,by have:=I.mB;omega,by have:=I.mL;omega,I.hB,I.hrb⟩
           refine cU 8 rfl (aF rfl ((ih Ix (by omega) (cL.of (eN.mv hbd9 (Mv.ah E9x))) (.inl hq) f2))) ?_;rintro _ h12 ⟨v12,rfl,hv12,b12,e12'⟩;refine⟨fun _=>e12'.mono (fun b _ q=>.inl q),?_⟩;obtain⟨nk',nt',xa',xn',xc',ea',en',ec',rfl,_,hR12,_⟩:=cG.get hv12;refine aG 9 ?_;refine aG 10 ?_;refine iA 11 rfl (aK rfl rfl (((k69.ah E9x).ext e12' (by omega))) dX) ?_;rintro _ h13 ⟨rfl,k13,x13,z13⟩;refine⟨nofun,?_⟩;refine aG 12 ?_;refine gV ?_;refine bF (br rfl k13.row (dM bE)) ?_;exact⟨_,rfl,_,rfl,cG.of (eV.mv hR12 (cC m6.1 o66 x13)),b12.ext x13 (by omega),(E0x.trans e12').aW x13 (fun b hb q=>by omega)⟩
end
end Go.Proofs.YtdgckfkoihcmjaaGreatDoor
namespace Go.Proofs
open Go.Shelf
def Tryz.A5:Go.Shelf.Ren:=⟨fun| 106=>89| 213=>133| 265=>165|n=>n,fun| 9=>9| 3=>3|n=>n,fun|n=>n⟩
theorem Tryz.Jc:Go.Proofs.Lays.n106 Tryz.prog Tryz.A5:= {
  mixed:=by kernel_rfl
  f106:=Tryz.func89.trans (congrArg some (by kernel_rfl))
  f213:=Tryz.func133.trans (congrArg some (by kernel_rfl))
  f265:=Tryz.func165.trans (congrArg some (by kernel_rfl))
  t3:=underlying3
  a3:=Tryz.isAgg3
  z3:=Tryz.sizeOf3
  v3:=Tryz.zeroValue3
  t9:=underlying9
  a9:=Tryz.isAgg9
  z9:=Tryz.sizeOf9
  v9:=Tryz.zeroValue9 }
def Tryz.A4:Go.Shelf.Ren:=⟨fun| 121=>35| 214=>78|n=>n,fun| 4=>4| 9=>9|n=>n,fun|n=>n⟩
theorem Tryz.Jb:Go.Proofs.Lays.n121 Tryz.prog Tryz.A4:= {
  mixed:=by kernel_rfl
  f121:=Tryz.func35.trans (congrArg some (by kernel_rfl))
  f214:=Tryz.func78.trans (congrArg some (by kernel_rfl))
  t4:=underlying4
  a4:=Tryz.isAgg4
  z4:=Tryz.sizeOf4
  v4:=Tryz.zeroValue4
  t9:=underlying9
  a9:=Tryz.isAgg9
  z9:=Tryz.sizeOf9
  v9:=Tryz.zeroValue9 }
def Tryz.yJ:Go.Shelf.Ren:=⟨fun| 173=>34| 246=>77| 283=>116| 284=>117| 285=>118| 286=>119| 129=>149| 317=>148| 318=>150| 319=>151| 320=>152| 337=>170| 338=>171|n=>n,fun| 2=>2| 3=>3| 9=>9| 4=>4| 171=>218| 0=>0| 53=>130| 37=>106| 5=>5| 173=>221| 212=>244| 51=>245| 20=>20| 213=>246| 46=>230| 232=>274| 233=>275|n=>n,fun| 17=>4| 18=>11| 19=>12|n=>n⟩
theorem Tryz.GV:Go.Proofs.LaysM.n173 Tryz.prog Tryz.yJ:= {
  mixed:=by kernel_rfl
  f129:=Tryz.func149.trans (congrArg some (by kernel_rfl))
  f173:=Tryz.func34.trans (congrArg some (by kernel_rfl))
  f246:=Tryz.func77.trans (congrArg some (by kernel_rfl))
  f283:=Tryz.func116.trans (congrArg some (by kernel_rfl))
  f284:=Tryz.func117.trans (congrArg some (by kernel_rfl))
  f285:=Tryz.func118.trans (congrArg some (by kernel_rfl))
  f286:=Tryz.func119.trans (congrArg some (by kernel_rfl))
  f317:=Tryz.func148.trans (congrArg some (by kernel_rfl))
  f318:=Tryz.func150.trans (congrArg some (by kernel_rfl))
  f319:=Tryz.func151.trans (congrArg some (by kernel_rfl))
  f320:=Tryz.func152.trans (congrArg some (by kernel_rfl))
  f337:=Tryz.func170.trans (congrArg some (by kernel_rfl))
  f338:=Tryz.func171.trans (congrArg some (by kernel_rfl))
  t0:=underlying0
  a0:=Tryz.isAgg0
  z0:=Tryz.sizeOf0
  v0:=Tryz.zeroValue0
  t2:=underlying2
  a2:=Tryz.isAgg2
  z2:=Tryz.sizeOf2
  v2:=Tryz.zeroValue2
  t3:=underlying3
  a3:=Tryz.isAgg3
  z3:=Tryz.sizeOf3
  v3:=Tryz.zeroValue3
  t4:=underlying4
  a4:=Tryz.isAgg4
  z4:=Tryz.sizeOf4
  v4:=Tryz.zeroValue4
  t5:=underlying5
  a5:=Tryz.isAgg5
  z5:=Tryz.sizeOf5
  v5:=Tryz.zeroValue5
  t9:=underlying9
  a9:=Tryz.isAgg9
  z9:=Tryz.sizeOf9
  v9:=Tryz.zeroValue9
  t20:=underlying20
  a20:=Tryz.isAgg20
  z20:=Tryz.sizeOf20
  v20:=Tryz.zeroValue20
  t37:=underlying106
  a37:=Tryz.isAgg106
  z37:=Tryz.sizeOf106
  v37:=Tryz.zeroValue106
  t46:=underlying230
  a46:=Tryz.isAgg230
  z46:=Tryz.sizeOf230
  v46:=Tryz.zeroValue230
  t51:=underlying245
  a51:=Tryz.isAgg245
  z51:=Tryz.sizeOf245
  v51:=Tryz.zeroValue245
  t53:=underlying130
  a53:=Tryz.isAgg130
  z53:=Tryz.sizeOf130
  v53:=Tryz.zeroValue130
  t171:=underlying218
  a171:=Tryz.isAgg218
  z171:=Tryz.sizeOf218
  v171:=Tryz.zeroValue218
  t173:=underlying221
  a173:=Tryz.isAgg221
  z173:=Tryz.sizeOf221
  v173:=Tryz.zeroValue221
  t212:=underlying244
  a212:=Tryz.isAgg244
  z212:=Tryz.sizeOf244
  v212:=Tryz.zeroValue244
  t213:=underlying246
  a213:=Tryz.isAgg246
  z213:=Tryz.sizeOf246
  t232:=underlying274
  a232:=Tryz.isAgg274
  z232:=Tryz.sizeOf274
  v232:=Tryz.zeroValue274
  t233:=underlying275
  a233:=Tryz.isAgg275
  z233:=Tryz.sizeOf275
  v233:=Tryz.zeroValue275
  g17:=by kernel_rfl
  g18:=by kernel_rfl
  g19:=by kernel_rfl
  i0:=by kernel_rfl
  i2:=by kernel_rfl
  i3:=by kernel_rfl
  i4:=by kernel_rfl
  i5:=by kernel_rfl
  i9:=by kernel_rfl
  i20:=by kernel_rfl
  i37:=by kernel_rfl
  i46:=by kernel_rfl
  i51:=by kernel_rfl
  i53:=by kernel_rfl
  i171:=by kernel_rfl
  i173:=by kernel_rfl
  i212:=by kernel_rfl
  i232:=by kernel_rfl
  i233:=by kernel_rfl
  m17:=by kernel_rfl
  m18:=by kernel_rfl
  m19:=by kernel_rfl }
def Tryz.yM:Go.Shelf.Ren:=⟨fun| 174=>38| 247=>82| 245=>83| 287=>126| 279=>127| 280=>128| 281=>129| 282=>130| 321=>160| 322=>161| 316=>162| 171=>100| 205=>163| 243=>141| 246=>77| 283=>116| 284=>117| 285=>118| 286=>119| 129=>149| 317=>148| 318=>150| 319=>151| 320=>152| 337=>170| 338=>171|n=>n,fun| 9=>9| 3=>3| 2=>2| 75=>111| 85=>112| 4=>4| 167=>227| 5=>5| 53=>130| 175=>228| 46=>230| 168=>231| 37=>106| 0=>0| 210=>257| 21=>21| 127=>240| 145=>270| 143=>268| 171=>218| 173=>221| 212=>244| 51=>245| 20=>20| 213=>246| 232=>274| 233=>275| 80=>205|n=>n,fun| 15=>5| 16=>6| 17=>4| 18=>11| 19=>12|n=>n⟩
theorem Tryz.um:Go.Proofs.LaysC.n174 Tryz.prog Tryz.yM:= {
  mixed:=by kernel_rfl
  f129:=Tryz.func149.trans (congrArg some (by kernel_rfl))
  f171:=Tryz.func100.trans (congrArg some (by kernel_rfl))
  f174:=Tryz.func38.trans (congrArg some (by kernel_rfl))
  f205:=Tryz.func163.trans (congrArg some (by kernel_rfl))
  f243:=Tryz.func141.trans (congrArg some (by kernel_rfl))
  f245:=Tryz.func83.trans (congrArg some (by kernel_rfl))
  f246:=Tryz.func77.trans (congrArg some (by kernel_rfl))
  f247:=Tryz.func82.trans (congrArg some (by kernel_rfl))
  f279:=Tryz.func127.trans (congrArg some (by kernel_rfl))
  f280:=Tryz.func128.trans (congrArg some (by kernel_rfl))
  f281:=Tryz.func129.trans (congrArg some (by kernel_rfl))
  f282:=Tryz.func130.trans (congrArg some (by kernel_rfl))
  f283:=Tryz.func116.trans (congrArg some (by kernel_rfl))
  f284:=Tryz.func117.trans (congrArg some (by kernel_rfl))
  f285:=Tryz.func118.trans (congrArg some (by kernel_rfl))
  f286:=Tryz.func119.trans (congrArg some (by kernel_rfl))
  f287:=Tryz.func126.trans (congrArg some (by kernel_rfl))
  f316:=Tryz.func162.trans (congrArg some (by kernel_rfl))
  f317:=Tryz.func148.trans (congrArg some (by kernel_rfl))
  f318:=Tryz.func150.trans (congrArg some (by kernel_rfl))
  f319:=Tryz.func151.trans (congrArg some (by kernel_rfl))
  f320:=Tryz.func152.trans (congrArg some (by kernel_rfl))
  f321:=Tryz.func160.trans (congrArg some (by kernel_rfl))
  f322:=Tryz.func161.trans (congrArg some (by kernel_rfl))
  f337:=Tryz.func170.trans (congrArg some (by kernel_rfl))
  f338:=Tryz.func171.trans (congrArg some (by kernel_rfl))
  t0:=underlying0
  a0:=Tryz.isAgg0
  z0:=Tryz.sizeOf0
  v0:=Tryz.zeroValue0
  t2:=underlying2
  a2:=Tryz.isAgg2
  z2:=Tryz.sizeOf2
  v2:=Tryz.zeroValue2
  t3:=underlying3
  a3:=Tryz.isAgg3
  z3:=Tryz.sizeOf3
  v3:=Tryz.zeroValue3
  t4:=underlying4
  a4:=Tryz.isAgg4
  z4:=Tryz.sizeOf4
  v4:=Tryz.zeroValue4
  t5:=underlying5
  a5:=Tryz.isAgg5
  z5:=Tryz.sizeOf5
  v5:=Tryz.zeroValue5
  t9:=underlying9
  a9:=Tryz.isAgg9
  z9:=Tryz.sizeOf9
  v9:=Tryz.zeroValue9
  t20:=underlying20
  a20:=Tryz.isAgg20
  z20:=Tryz.sizeOf20
  v20:=Tryz.zeroValue20
  t21:=underlying21
  a21:=Tryz.isAgg21
  z21:=Tryz.sizeOf21
  v21:=Tryz.zeroValue21
  t37:=underlying106
  a37:=Tryz.isAgg106
  z37:=Tryz.sizeOf106
  v37:=Tryz.zeroValue106
  t46:=underlying230
  a46:=Tryz.isAgg230
  z46:=Tryz.sizeOf230
  v46:=Tryz.zeroValue230
  t51:=underlying245
  a51:=Tryz.isAgg245
  z51:=Tryz.sizeOf245
  v51:=Tryz.zeroValue245
  t53:=underlying130
  a53:=Tryz.isAgg130
  z53:=Tryz.sizeOf130
  v53:=Tryz.zeroValue130
  t75:=underlying111
  a75:=Tryz.isAgg111
  z75:=Tryz.sizeOf111
  v75:=Tryz.zeroValue111
  t85:=underlying112
  a85:=Tryz.isAgg112
  z85:=Tryz.sizeOf112
  v85:=Tryz.zeroValue112
  t127:=underlying240
  a127:=Tryz.isAgg240
  z127:=Tryz.sizeOf240
  v127:=Tryz.zeroValue240
  t143:=underlying268
  a143:=Tryz.isAgg268
  z143:=Tryz.sizeOf268
  v143:=Tryz.zeroValue268
  t145:=underlying270
  a145:=Tryz.isAgg270
  z145:=Tryz.sizeOf270
  v145:=Tryz.zeroValue270
  t167:=underlying227
  a167:=Tryz.isAgg227
  z167:=Tryz.sizeOf227
  v167:=Tryz.zeroValue227
  t168:=underlying231
  a168:=Tryz.isAgg231
  z168:=Tryz.sizeOf231
  v168:=Tryz.zeroValue231
  t171:=underlying218
  a171:=Tryz.isAgg218
  z171:=Tryz.sizeOf218
  v171:=Tryz.zeroValue218
  t173:=underlying221
  a173:=Tryz.isAgg221
  z173:=Tryz.sizeOf221
  v173:=Tryz.zeroValue221
  t175:=underlying228
  a175:=Tryz.isAgg228
  z175:=Tryz.sizeOf228
  v175:=Tryz.zeroValue228
  t210:=underlying257
  a210:=Tryz.isAgg257
  z210:=Tryz.sizeOf257
  v210:=Tryz.zeroValue257
  t212:=underlying244
  a212:=Tryz.isAgg244
  z212:=Tryz.sizeOf244
  v212:=Tryz.zeroValue244
  t213:=underlying246
  a213:=Tryz.isAgg246
  z213:=Tryz.sizeOf246
  t232:=underlying274
  a232:=Tryz.isAgg274
  z232:=Tryz.sizeOf274
  v232:=Tryz.zeroValue274
  t233:=underlying275
  a233:=Tryz.isAgg275
  z233:=Tryz.sizeOf275
  v233:=Tryz.zeroValue275
  g15:=by kernel_rfl
  g16:=by kernel_rfl
  g17:=by kernel_rfl
  g18:=by kernel_rfl
  g19:=by kernel_rfl
  t80:=underlying205
  a80:=Tryz.isAgg205
  z80:=Tryz.sizeOf205
  v80:=Tryz.zeroValue205
  i0:=by kernel_rfl
  i2:=by kernel_rfl
  i3:=by kernel_rfl
  i4:=by kernel_rfl
  i5:=by kernel_rfl
  i9:=by kernel_rfl
  i20:=by kernel_rfl
  i21:=by kernel_rfl
  i37:=by kernel_rfl
  i46:=by kernel_rfl
  i51:=by kernel_rfl
  i53:=by kernel_rfl
  i75:=by kernel_rfl
  i80:=by kernel_rfl
  i85:=by kernel_rfl
  i127:=by kernel_rfl
  i143:=by kernel_rfl
  i145:=by kernel_rfl
  i167:=by kernel_rfl
  i168:=by kernel_rfl
  i171:=by kernel_rfl
  i173:=by kernel_rfl
  i175:=by kernel_rfl
  i210:=by kernel_rfl
  i212:=by kernel_rfl
  i232:=by kernel_rfl
  i233:=by kernel_rfl
  m15:=by kernel_rfl
  m16:=by kernel_rfl
  m17:=by kernel_rfl
  m18:=by kernel_rfl
  m19:=by kernel_rfl
  c0:=by kernel_rfl
  c2:=by kernel_rfl
  c3:=by kernel_rfl
  c4:=by kernel_rfl
  c5:=by kernel_rfl
  c9:=by kernel_rfl
  c20:=by kernel_rfl
  c21:=by kernel_rfl
  c37:=by kernel_rfl
  c46:=by kernel_rfl
  c51:=by kernel_rfl
  c53:=by kernel_rfl
  c75:=by kernel_rfl
  c80:=by kernel_rfl
  c85:=by kernel_rfl
  c127:=by kernel_rfl
  c143:=by kernel_rfl
  c145:=by kernel_rfl
  c167:=by kernel_rfl
  c168:=by kernel_rfl
  c171:=by kernel_rfl
  c173:=by kernel_rfl
  c175:=by kernel_rfl
  c210:=by kernel_rfl
  c212:=by kernel_rfl
  c213:=by kernel_rfl
  c232:=by kernel_rfl
  c233:=by kernel_rfl }
open Go.RowKit in
theorem Tryz.strings_Compare (a b:ByteArray) (w:World) :
    Calls Tryz.prog 89 #[.string a,.string b] w fun e w'=>e= .returned (.int .i64 (Lib.compareBytes a.data.toList b.data.toList))/\w'=w:=Any.strings_Compare Tryz.Jc a b w
open Go.RowKit in
theorem Tryz.strconv_FormatBool (b:Bool) (w:World) :
    Calls Tryz.prog 35 #[.bool b] w fun e w'=>e= .returned (.string ⟨(Lib.formatBool b).toArray⟩)/\w'=w:=Any.strconv_FormatBool Tryz.Jb b w
open Go.RowKit Go.Sort Go.Lib in
theorem Tryz.strconv_FormatInt_10 (n:Int) (h0 : -9223372036854775808<=n) (h1:n<=9223372036854775807) (w:World) (htab:Lib.TabIs Tryz.prog w "internal/strconv.uint64pow10" .u64 Lib.pow10Tab) :
    Calls Tryz.prog 34 #[.int .i64 n,.int .i64 10] w fun e w'=>e= .returned (.string ⟨(Lib.itoa n).toArray⟩)/\∃k os,w'=grow (w.drewN k) os:=Any.strconv_FormatInt_10 Tryz.GV n h0 h1 w htab
open Go.RowKit in
theorem Tryz.strconv_ParseInt_10_at64_ok (s:ByteArray) (hmax:s.size<=9223372036854775806) (v:Int) (h:Lib.parseIntB 64 s.data.toList= .ok v) (w:World) :
    Calls Tryz.prog 38 #[.string s,.int .i64 10,.int .i64 64] w fun e w'=>e= .returned (.tuple #[.int .i64 v,.nilIface])/\(w'=w\/∃t,w'=Lib.bytesWorld w 5 t):=Any.strconv_ParseInt_10_at64_ok Tryz.um s hmax v h w
open Go.RowKit in
theorem Tryz.strconv_ParseInt_10_at64_syntax_var (s:ByteArray) (hlim:s.size<=281474976710656) (h:Lib.parseIntB 64 s.data.toList= .syntax) (tp:TypeId) (p:Value) (w:World) (hvar:w.var? Tryz.prog "strconv.ErrSyntax" =some #[.iface tp p]) :
    Calls Tryz.prog 38 #[.string s,.int .i64 10,.int .i64 64] w fun e w'=>∃N,e= .returned (.tuple #[.int .i64 (0),.iface 231 (.pointer (some ⟨N,0,none⟩))])/\w.heap.size<=N/\w'.heap[N]? =some (.cells #[.string ⟨#[80,97,114,115,101,73,110,116]⟩,.string s,.iface tp p] 257 (0,0))/\Below w.heap.size w w':=Any.strconv_ParseInt_10_at64_syntax_var Tryz.um s hlim h tp p w hvar
open Go.RowKit in
theorem Tryz.strconv_ParseInt_10_at64_range_var (s:ByteArray) (hlim:s.size<=281474976710656) (h:Lib.parseIntB 64 s.data.toList= .range) (tp:TypeId) (p:Value) (w:World) (hvar:w.var? Tryz.prog "strconv.ErrRange" =some #[.iface tp p]) :
    Calls Tryz.prog 38 #[.string s,.int .i64 10,.int .i64 64] w fun e w'=>∃N,e= .returned (.tuple #[.int .i64 (Lib.intSat 64 s.data.toList),.iface 231 (.pointer (some ⟨N,0,none⟩))])/\w.heap.size<=N/\w'.heap[N]? =some (.cells #[.string ⟨#[80,97,114,115,101,73,110,116]⟩,.string s,.iface tp p] 257 (0,0))/\Below w.heap.size w w':=Any.strconv_ParseInt_10_at64_range_var Tryz.um s hlim h tp p w hvar
end Go.Proofs
namespace Go.Proofs.YtdgckfkoihcmjaaGreatDoor
open Go.Proofs.Tryz
open Go Go.Lw
set_option maxRecDepth 20000 set_option maxHeartbeats 4000000
section
variable {h hb:aj}{rb B d m c:Nat}{O:Nat->Prop}{ev nv v:Value}{env:List Bd}{t s:By}{l:List Tr}{a:Option Addr}{n k:Int}{x:Tr}
theorem yb (a b:By):av Tryz.prog 89 #[.string (bs a),.string (bs b)] h (bq fun r h'=>r= .int .i64 (Lib.compareBytes a b)/\h'=h) :=
 av.sO fun w=>Tryz.strings_Compare (bs a) (bs b) w
theorem zm (ih:Lq hb rb B d) (I:o7 hb rb B O h m ev env) (hm:m<=d) (hn:cL h O nv (.mk 5 t l)) (hc:Cl aS (.mk 5 t l)) (hw:(Tr.mk 5 t l).wt<=1000000) :
 av Tryz.prog 47 #[.pointer (some ⟨rb,0,none⟩),ev,nv] h (bq fun r h'=>Kt rb O h (D3 (bp d) m env t l) r h'):=by
 obtain⟨na,nn,nc,rfl,hR,hks⟩:=iB hn;have hkn:=hks.len;subst hkn;obtain⟨hl1,hl2⟩:=uZ hc (by decide);have hl1:2<=l.length:=hl1;obtain⟨b0,o0,k0,t0,a0,n0,c0,ha0,hb0,hr0,hk0⟩:=fX hks (i:=0) (by omega);have hrl:=I.BT;refine bP ?_;refine af ?_;refine xo rfl (iF) ?_;rintro _ h1 ⟨rfl,k5,e1,z1⟩;refine xo rfl (cm) ?_;rintro _ h2 ⟨rfl,k6,e2,z2⟩;have e12:=e1.trans e2;have k5:aC h2 h.size 27 [.int .i64 5,.string (bs t),.slice na l.length nc]:=k5.ah e2;have m2:=cz O h h2;have I2:=I.wQ m2 e12 (iN I.lt e12.size);have o1:=iQ B d m env (l.getD 0 cj) I.mB I.ok (cH hw 0);have hih:=ih I2 hm (hk0.mv (m2.rI e12)) (hc.xm 0) (cH hw 0);unfold D3;generalize bp d m env (l.getD 0 cj)=o at hih o1 ⊢;obtain⟨v,e,m'⟩:=o;obtain⟨hm',hvk,hlt⟩:=o1;dsimp only at hm' hvk hlt ⊢;refine af ?_;refine xp rfl (az rfl (k5.cell (i:=2) rfl)) ?_;refine xp rfl (cK rfl rfl 0 rfl ha0) ?_;refine xp rfl (bV rfl (e12.rowAt (fun k=>k) hr0)) ?_;refine xo rfl (aF rfl hih) ?_;rintro _ h3 ⟨v3,rfl,hv3,b3,e3⟩;dsimp only at hv3 b3;obtain⟨nk,nt,xa,xn,xc,ea,en,ec,rfl,hbd3,hR3,hen3⟩:=cG.get hv3;refine af ?_;refine xo rfl (cm) ?_;rintro _ h4 ⟨rfl,k8,e4,z4⟩;refine aH rfl (aK rfl rfl k8 dX) ?_;rintro _ h5 ⟨rfl,k85,x5,z5⟩;have k85:aC h5 h3.size 30 (iG v.kind v.num v.fO v.self nk nt xa xn xc ea en ec):=k85;have e35:aq h3 h5:=aq.only e4 x5 (Nat.le_refl _);have E25:Ext (fun b=>b=rb) h2 h5:=e3.trans (e35.mono fun _ _ q=>q.elim);have E05:Ext (fun b=>b=rb) h h5:=(e12.mono fun _ _ q=>q.elim).trans E25;have zz:=And.intro e3.size (And.intro e35.size e12.size);have m23:=cz (upTo O h h2) h3 h5;obtain⟨O3,hO3⟩:∃O3,O3=upTo (upTo O h h2) h3 h5:=⟨_,rfl⟩
 have l3:∀b,O3 b->b<h5.size:=fun b q=>by
  rw[hO3] at q
  rcases q with (q|q)|q
  · have:=I.lt b q;omega
  · omega
  · omega
 have m3:iV h O O3:=by
  rw[hO3]
  exact⟨fun b q=>.inl (.inl q),fun b q=>by
   rcases q with (q|q)|q
   · exact .inl q
   · exact .inr q.1
   · exact .inr (by omega)⟩
 have b5:=b3.ah e35;have hR5:=eV.mv hR3 (m23.rI e35);rw[<-hO3] at hR5;have hbd5:=eN.mv hbd3 (m23.rI e35);rw[<-hO3] at hbd5;have hen5:=hen3.mv (m23.rI e35);rw[<-hO3] at hen5;have o6:O3 h1.size:=by rw[hO3];exact .inl (.inr (by omega))
 have k55:=k5.ext E25 (by omega);have k65:=k6.ext E25 (by omega);have I5:o7 hb rb B O3 h5 m' ev env:=I.next m3 hm' E05 b5 l3
 refine af ?_;refine aP (fun he=>?_) (fun he=>?_)
 · rw[if_pos he];refine af ?_;refine xp rfl (au (H.dJ ) rfl) ?_;refine af ?_;refine aH rfl (aK rfl rfl k65) ?_;rintro _ h6 ⟨rfl,k66,x6,z6⟩;refine af ?_;refine bF (br rfl k66.row (dM bE)) ?_;exact⟨_,rfl,_,rfl,gE _ _,b5.ext x6 (by omega),E05.aW x6 (fun b hb q=>by omega)⟩
 · rw[if_neg he]
   iterate 3 refine aR ?_
   refine dW [(34,.bool (decide (t=l9\/t=jb)))] rfl ?_ ?_
   · refine af ?_;refine xp rfl (az rfl (k55.cell (i:=1) rfl)) ?_;refine af ?_;refine b9 30 (fun p=>?_) (fun p=>?_)
     · have p:t=l9:=aI (of_decide_eq_true p);refine af ?_;exact aA rfl ⟨ai rfl (by rw[decide_eq_true (.inl p)]),sb rfl⟩
     · have p:¬t=l9:=fun q=>of_decide_eq_false p (by rw[q];rfl)
       refine af ?_;refine xp rfl (az rfl (k55.cell (i:=1) rfl)) ?_;refine af ?_;exact aA rfl ⟨ai rfl (by rw[decide_eq_decide];exact⟨fun q=>.inr (aI q),fun q=>by rw[q.resolve_left p];rfl⟩),sb rfl⟩
   · refine fF (fun hoa=>?_) (fun hoa=>?_)
     · have hoa:=of_decide_eq_true hoa;rw[if_pos hoa];refine af ?_;refine xp rfl (az rfl (k85.cell (i:=0) rfl)) ?_;refine af ?_;refine aP (fun hk=>?_) (fun hk=>?_)
       · rw[if_pos hk];refine af ?_;refine xp rfl (au (H.dJ ) rfl) ?_;refine aH rfl (aK rfl rfl k65) ?_;rintro _ h6 ⟨rfl,k66,x6,z6⟩;refine af ?_;refine bF (br rfl k66.row (dM bE)) ?_;exact⟨_,rfl,_,rfl,gE _ _,b5.ext x6 (by omega),E05.aW x6 (fun b hb q=>by omega)⟩
       · rw[if_neg hk];have hor:decide (bs t=⟨#[111,114]⟩)=decide (t=l9):=by rw[decide_eq_decide];exact⟨fun q=>aI q,fun q=>by rw[q];rfl⟩
         refine af ?_;refine xp rfl (az rfl (k85.cell (i:=1) rfl)) ?_;refine af ?_;refine xp rfl (az rfl (k55.cell (i:=1) rfl)) ?_;refine af ?_;refine fF (fun hq=>?_) (fun hq=>?_)
         · have hq:decide (v.num≠0)=decide (t=l9):=by rw[<-hor];simpa using hq
           rw[if_pos hq];refine af ?_;refine xp rfl (bV rfl k85.row) ?_;refine aH rfl (aK rfl rfl k65 dX) ?_;rintro _ h6 ⟨rfl,k66,x6,z6⟩;refine af ?_;refine bF (br rfl k66.row (dM bE)) ?_;exact⟨_,rfl,_,rfl,cG.of (eV.mv hR5 (cC m3.1 o6 x6)),b5.ext x6 (by omega),E05.aW x6 (fun b hb q=>by omega)⟩
         · have hq:¬decide (v.num≠0)=decide (t=l9):=by rw[<-hor];simpa using hq
           rw[if_neg hq];obtain⟨b1,o1',k1,t1,a1,n1,c1,ha1,hb1,hr1,hk1⟩:=fX hks (i:=1) (by omega);have hb1r:b1≠rb:=fun q=>hb1.1 (q▸I.own)
           have hr1':=E05.rowAt hb1r hr1;have hk1':=hk1.mv (m3.mv I.own E05);have o2:=iQ B d m' env (l.getD 1 cj) I5.mB I5.ok (cH hw 1);have hih2:=ih I5 (by omega) hk1' (hc.xm 1) (cH hw 1);generalize bp d m' env (l.getD 1 cj)=p at hih2 o2 ⊢;obtain⟨v2,e2',m2'⟩:=p;obtain⟨hm2,hvk2,hlt2⟩:=o2;dsimp only at hm2 hvk2 hlt2 ⊢;refine af ?_;refine xp rfl (az rfl (k55.cell (i:=2) rfl)) ?_;refine xp rfl (cK rfl rfl 1 rfl ha1) ?_;refine xp rfl (bV rfl hr1') ?_;refine xo rfl (aF rfl hih2) ?_;rintro _ h6 ⟨v6,rfl,hv6,b6,e6⟩;dsimp only at hv6 b6;obtain⟨nk2,nt2,ya,yn,yc,fa,fm,fc,rfl,_,hR6,_⟩:=cG.get hv6;refine af ?_;refine xo rfl (cm) ?_;rintro _ h7 ⟨rfl,k10,e7,z7⟩;refine aH rfl (aK rfl rfl k10 dX) ?_;rintro _ h8 ⟨rfl,k10',x8,z8⟩;have k10':aC h8 h6.size 30 (iG v2.kind v2.num v2.fO v2.self nk2 nt2 ya yn yc fa fm fc):=k10';have e68:aq h6 h8:=aq.only e7 x8 (Nat.le_refl _);have E58:Ext (fun b=>b=rb) h5 h8:=e6.trans (e68.mono fun _ _ q=>q.elim);have E08:=E05.trans E58;have zw:=And.intro e6.size e68.size;obtain⟨O6,hO6⟩:∃O6,O6=upTo O3 h6 h8:=⟨_,rfl⟩
           have l6:∀b,O6 b->b<h8.size:=fun b q=>by
            rw[hO6] at q
            rcases q with q|q
            · have:=l3 b q;omega
            · omega
           have m56:iV h5 O3 O6:=by rw[hO6];exact⟨fun b q=>.inl q,fun b q=>q.imp id (fun q=>by omega)⟩
           have m6:iV h O O6:=⟨fun b q=>m56.1 b (m3.1 b q),fun b q=>(m56.2 b q).elim (m3.2 b) (fun q=>.inr (by omega))⟩
           have b8:=b6.ah e68;have hR8:=eV.mv hR6 ((cz O3 h6 h8).rI e68);rw[<-hO6] at hR8;have hr3:=m3.1 _ I.own;have hR58:=eV.mv hR5 (m56.mv hr3 E58);have o66:=m56.1 _ o6;have k58:=k55.ext E58 (by omega);have k68:=k65.ext E58 (by omega);have k88:=k85.ext E58 (by have:=I2.BT;omega);have I8:o7 hb rb B O6 h8 m2' ev env:=I5.next m56 hm2 E58 b8 l6
           refine aZ ?_;refine cV ?_
           iterate 2 refine aR ?_
           refine dW [(63,.bool (decide (e2'=0/\v2.kind≠2)))] rfl ?_ ?_
           · refine af ?_;refine b9 59 (fun p=>?_) (fun p=>?_)
             · have p:=of_decide_eq_true p;refine af ?_;refine xp rfl (az rfl (k10'.cell (i:=0) rfl)) ?_;refine af ?_;exact aA rfl ⟨ai rfl (by rw[decide_eq_decide];exact⟨fun q=>⟨p,q⟩,fun q=>q.2⟩),sb rfl⟩
             · have p:=of_decide_eq_false p;refine af ?_;exact aA rfl ⟨ai rfl (by rw[decide_eq_false (fun q=>p q.1)]),sb rfl⟩
           · refine fF (fun hp=>?_) (fun hp=>?_)
             · have hp:=of_decide_eq_true hp;rw[if_pos hp];refine af ?_;refine xp rfl (au (H.dJ ) rfl) ?_;refine aH rfl (aK rfl rfl k68) ?_;rintro _ h9 ⟨rfl,k66,x9,z9⟩;refine af ?_;refine bF (br rfl k66.row (dM bE)) ?_;exact⟨_,rfl,_,rfl,gE _ _,b8.ext x9 (by omega),E08.aW x9 (fun b hb q=>by omega)⟩
             · have hp:=of_decide_eq_false hp;rw[if_neg hp];refine af ?_;refine xp rfl (bV rfl k10'.row) ?_;refine af ?_;refine aH rfl (aK rfl rfl k68 dX) ?_;rintro _ h9 ⟨rfl,k66,x9,z9⟩;refine af ?_;refine bF (br rfl k66.row (dM bE)) ?_;exact⟨_,rfl,_,rfl,cG.of (eV.mv hR8 (cC m6.1 o66 x9)),(b8).ext x9 (by omega),(E08).aW x9 (fun b hb q=>by omega)⟩
     · have hoa:=of_decide_eq_false hoa;rw[if_neg hoa];obtain⟨b1,o1',k1,t1,a1,n1,c1,ha1,hb1,hr1,hk1⟩:=fX hks (i:=1) (by omega);have hb1r:b1≠rb:=fun q=>hb1.1 (q▸I.own)
       have hr1':=E05.rowAt hb1r hr1;have hk1':=hk1.mv (m3.mv I.own E05);have o2:=iQ B d m' env (l.getD 1 cj) I5.mB I5.ok (cH hw 1);have hih2:=ih I5 (by omega) hk1' (hc.xm 1) (cH hw 1);generalize bp d m' env (l.getD 1 cj)=p at hih2 o2 ⊢;obtain⟨v2,e2',m2'⟩:=p;obtain⟨hm2,hvk2,hlt2⟩:=o2;dsimp only at hm2 hvk2 hlt2 ⊢;refine af ?_;refine xp rfl (az rfl (k55.cell (i:=2) rfl)) ?_;refine xp rfl (cK rfl rfl 1 rfl ha1) ?_;refine xp rfl (bV rfl hr1') ?_;refine xo rfl (aF rfl hih2) ?_;rintro _ h6 ⟨v6,rfl,hv6,b6,e6⟩;dsimp only at hv6 b6;obtain⟨nk2,nt2,ya,yn,yc,fa,fm,fc,rfl,_,hR6,_⟩:=cG.get hv6;refine af ?_;refine xo rfl (cm) ?_;rintro _ h7 ⟨rfl,k10,e7,z7⟩;refine aH rfl (aK rfl rfl k10 dX) ?_;rintro _ h8 ⟨rfl,k10',x8,z8⟩;have k10':aC h8 h6.size 30 (iG v2.kind v2.num v2.fO v2.self nk2 nt2 ya yn yc fa fm fc):=k10';have e68:aq h6 h8:=aq.only e7 x8 (Nat.le_refl _);have E58:Ext (fun b=>b=rb) h5 h8:=e6.trans (e68.mono fun _ _ q=>q.elim);have E08:=E05.trans E58;have zw:=And.intro e6.size e68.size;obtain⟨O6,hO6⟩:∃O6,O6=upTo O3 h6 h8:=⟨_,rfl⟩
       have l6:∀b,O6 b->b<h8.size:=fun b q=>by
        rw[hO6] at q
        rcases q with q|q
        · have:=l3 b q;omega
        · omega
       have m56:iV h5 O3 O6:=by rw[hO6];exact⟨fun b q=>.inl q,fun b q=>q.imp id (fun q=>by omega)⟩
       have m6:iV h O O6:=⟨fun b q=>m56.1 b (m3.1 b q),fun b q=>(m56.2 b q).elim (m3.2 b) (fun q=>.inr (by omega))⟩
       have b8:=b6.ah e68;have hR8:=eV.mv hR6 ((cz O3 h6 h8).rI e68);rw[<-hO6] at hR8;have hr3:=m3.1 _ I.own;have hR58:=eV.mv hR5 (m56.mv hr3 E58);have o66:=m56.1 _ o6;have k58:=k55.ext E58 (by omega);have k68:=k65.ext E58 (by omega);have k88:=k85.ext E58 (by have:=I2.BT;omega);have I8:o7 hb rb B O6 h8 m2' ev env:=I5.next m56 hm2 E58 b8 l6
       refine af ?_;refine aP (fun he2=>?_) (fun he2=>?_)
       · rw[if_pos he2];refine af ?_;refine xp rfl (au (H.dJ ) rfl) ?_;refine af ?_;refine aH rfl (aK rfl rfl k68) ?_;rintro _ h9 ⟨rfl,k66,x9,z9⟩;refine af ?_;refine bF (br rfl k66.row (dM bE)) ?_;exact⟨_,rfl,_,rfl,gE _ _,b8.ext x9 (by omega),E08.aW x9 (fun b hb q=>by omega)⟩
       · rw[if_neg he2];obtain⟨g1,_,_⟩:=hvk.get;obtain⟨g2,_,_⟩:=hvk2.get;have hs1:=aL v.fO;have hs2:=aL v2.fO;unfold gQ;refine aR ?_;refine dW [(82,.bool (decide (v.kind≠v2.kind\/v.kind=4)))] rfl ?_ ?_
         · refine af ?_;refine xp rfl (az rfl (k88.cell (i:=0) rfl)) ?_;refine af ?_;refine xp rfl (az rfl (k10'.cell (i:=0) rfl)) ?_;refine af ?_;refine b9 88 (fun p=>?_) (fun p=>?_)
           · have p:=of_decide_eq_true p;refine af ?_;exact aA rfl ⟨ai rfl (by rw[decide_eq_true (.inl p)]),sb rfl⟩
           · have p:=of_decide_eq_false p;refine af ?_;refine xp rfl (az rfl (k88.cell (i:=0) rfl)) ?_;refine af ?_;exact aA rfl ⟨ai rfl (by rw[decide_eq_decide];exact⟨.inr,fun q=>q.resolve_left p⟩),sb rfl⟩
         · refine fF (fun hk=>?_) (fun hk=>?_)
           · have hk:=of_decide_eq_true hk;rw[if_pos hk];refine af ?_;refine xp rfl (au (H.dJ ) rfl) ?_;refine aH rfl (aK rfl rfl k68) ?_;rintro _ h9 ⟨rfl,k66,x9,z9⟩;refine af ?_;refine bF (br rfl k66.row (dM bE)) ?_;exact⟨_,rfl,_,rfl,gE _ _,b8.ext x9 (by omega),E08.aW x9 (fun b hb q=>by omega)⟩
           · have hk:=of_decide_eq_false hk;rw[if_neg hk];refine af ?_;refine xp rfl (az rfl (k88.cell (i:=0) rfl)) ?_;refine af ?_;refine aP (fun h1k=>?_) (fun h1k=>?_)
             · rw[if_pos h1k];refine af ?_;refine xp rfl (az rfl (k58.cell (i:=1) rfl)) ?_;refine af ?_;refine xp rfl (az rfl (k88.cell (i:=1) rfl)) ?_;refine af ?_;refine xp rfl (az rfl (k10'.cell (i:=1) rfl)) ?_;refine xo rfl (aF rfl (we O6 t _ _)) ?_;rintro _ h9' ⟨vz,rfl,hvz,ez⟩;obtain⟨zk,zt,za,zn,zc,wa,wm,wc,rfl,_,hRz,_⟩:=cG.get hvz;have Ez:=E08.trans (ez.mono fun _ _ q=>q.elim);have zz9:=ez.size;refine af ?_;refine aH rfl (aK rfl rfl ((k68.ah ez)) dX) ?_;rintro _ h9 ⟨rfl,k66,x9,z9⟩;refine af ?_;refine bF (br rfl k66.row (dM bE)) ?_;exact⟨_,rfl,_,rfl,cG.of (eV.mv hRz (cC m6.1 o66 x9)),((b8.ah ez)).ext x9 (by omega),(Ez).aW x9 (fun b hb q=>by omega)⟩
             · rw[if_neg h1k];refine aR ?_;refine dW [(107,.bool (decide (v.kind=3/\t=[43])))] rfl ?_ ?_
               · refine af ?_;refine xp rfl (az rfl (k88.cell (i:=0) rfl)) ?_;refine af ?_;refine b9 111 (fun p=>?_) (fun p=>?_)
                 · have p:=of_decide_eq_true p;refine af ?_;refine xp rfl (az rfl (k58.cell (i:=1) rfl)) ?_;refine af ?_;exact aA rfl ⟨ai rfl (by rw[decide_eq_decide];exact⟨fun q=>⟨p,aI q⟩,fun q=>by rw[q.2];rfl⟩),sb rfl⟩
                 · have p:=of_decide_eq_false p;refine af ?_;exact aA rfl ⟨ai rfl (by rw[decide_eq_false (fun q=>p q.1)]),sb rfl⟩
               · refine fF (fun h3p=>?_) (fun h3p=>?_)
                 · have h3p:=of_decide_eq_true h3p;rw[if_pos h3p];refine af ?_;refine xp rfl (az rfl (k88.cell (i:=2) rfl)) ?_;refine af ?_;refine xp rfl (az rfl (k10'.cell (i:=2) rfl)) ?_;refine af ?_;refine aP (fun hbig=>?_) (fun hbig=>?_)
                   · rw[if_pos (by omega)];refine af ?_;refine xp rfl (au (H.dJ ) rfl) ?_;refine aH rfl (aK rfl rfl k68) ?_;rintro _ h9 ⟨rfl,k66,x9,z9⟩;refine af ?_;refine bF (br rfl k66.row (dM bE)) ?_;exact⟨_,rfl,_,rfl,gE _ _,b8.ext x9 (by omega),E08.aW x9 (fun b hb q=>by omega)⟩
                   · rw[if_neg (by omega)];refine af ?_;refine xp rfl (az rfl (k88.cell (i:=2) rfl)) ?_;refine af ?_;refine xp rfl (az rfl (k10'.cell (i:=2) rfl)) ?_;refine aZ ?_;rw[iX];refine xp rfl (au (H.BC _ _) rfl) ?_;refine aH rfl (aK rfl rfl k68 dX) ?_;rintro _ h9 ⟨rfl,k66,x9,z9⟩;refine af ?_;refine bF (br rfl k66.row (dM bE)) ?_;exact⟨_,rfl,_,rfl,J1 _ _ _,b8.ext x9 (by omega),E08.aW x9 (fun b hb q=>by omega)⟩
                 · have h3p:=of_decide_eq_false h3p;rw[if_neg h3p];refine af ?_;refine xp rfl (az rfl (k88.cell (i:=0) rfl)) ?_;refine af ?_;refine aP (fun h3k=>?_) (fun h3k=>?_)
                   · rw[if_pos h3k];refine af ?_;refine Ij 12 10 ?_;refine aG 0 ?_;refine bC 1 rfl (fun h' e=>az rfl (e.cell (by have:=I2.BT;dsimp only;omega) (k58.cell (i:=1) rfl))) ?_;refine aG 2 ?_;refine bC 3 rfl (fun h' e=>az rfl (e.cell (by dsimp only;omega) (k88.cell (i:=2) rfl))) ?_;refine aG 4 ?_;refine bC 5 rfl (fun h' e=>az rfl (e.cell (by dsimp only;omega) (k10'.cell (i:=2) rfl))) ?_;refine cU 6 rfl (aF rfl (yb _ _)) ?_;rintro _ _ ⟨rfl,rfl⟩;refine⟨fun _=>Ext.refl _ _,?_⟩;refine cU 7 rfl (aF rfl (ot O6 t _)) ?_;rintro _ h9' ⟨vz,rfl,hvz,ez⟩;refine⟨fun _=>ez.of,?_⟩;obtain⟨zk,zt,za,zn,zc,wa,wm,wc,rfl,_,hRz,_⟩:=cG.get hvz;have Ez:=E08.trans (ez.mono fun _ _ q=>q.elim);have zz9:=ez.size;refine aG 8 ?_;refine aG 9 ?_;refine iA 10 rfl (aK rfl rfl ((k68.ah ez)) dX) ?_;rintro _ h9 ⟨rfl,k66,x9,z9⟩;refine⟨nofun,?_⟩;refine aG 11 ?_;refine gV ?_;refine bF (br rfl k66.row (dM bE)) ?_;exact⟨_,rfl,_,rfl,cG.of (eV.mv hRz (cC m6.1 o66 x9)),((b8.ah ez)).ext x9 (by omega),(Ez).aW x9 (fun b hb q=>by omega)⟩
                   · rw[if_neg h3k];refine af ?_;refine xp rfl (az rfl (k58.cell (i:=1) rfl)) ?_;refine af ?_;refine aP (fun hee=>?_) (fun hee=>?_)
                     · have hee:t=[61,61]:=aI hee;rw[if_pos hee];refine af ?_;refine xp rfl (az rfl (k88.cell (i:=1) rfl)) ?_;refine af ?_;refine xp rfl (az rfl (k10'.cell (i:=1) rfl)) ?_;refine af ?_;refine xo rfl (aF rfl (cQ _)) ?_;rintro _ h9' ⟨rfl,ez⟩;refine aH rfl (aK rfl rfl ((k68.ah ez)) dX) ?_;rintro _ h9 ⟨rfl,k66,x9,z9⟩;refine af ?_;refine bF (br rfl k66.row (dM bE)) ?_;exact⟨_,rfl,_,rfl,nS _ _ _,(b8.ah ez).ext x9 (by omega),(E08.trans (ez.mono fun _ _ q=>q.elim)).aW x9 (fun b hb q=>by omega)⟩
                     · have hee:¬t=[61,61]:=fun q=>hee (by rw[q];rfl)
                       rw[if_neg hee];refine af ?_;refine xp rfl (az rfl (k58.cell (i:=1) rfl)) ?_;refine af ?_;refine aP (fun hne=>?_) (fun hne=>?_)
                       · have hne:t=[33,61]:=aI hne;rw[if_pos hne];refine af ?_;refine xp rfl (az rfl (k88.cell (i:=1) rfl)) ?_;refine af ?_;refine xp rfl (az rfl (k10'.cell (i:=1) rfl)) ?_;refine af ?_;refine xo rfl (aF rfl (cQ _)) ?_;rintro _ h9' ⟨rfl,ez⟩;refine aH rfl (aK rfl rfl ((k68.ah ez)) dX) ?_;rintro _ h9 ⟨rfl,k66,x9,z9⟩;refine af ?_;refine bF (br rfl k66.row (dM bE)) ?_;exact⟨_,rfl,_,rfl,nS _ _ _,(b8.ah ez).ext x9 (by omega),(E08.trans (ez.mono fun _ _ q=>q.elim)).aW x9 (fun b hb q=>by omega)⟩
                       · have hne:¬t=[33,61]:=fun q=>hne (by rw[q];rfl)
                         rw[if_neg hne];refine af ?_;refine xp rfl (au (H.dJ ) rfl) ?_;refine aH rfl (aK rfl rfl k68) ?_;rintro _ h9 ⟨rfl,k66,x9,z9⟩;refine af ?_;refine bF (br rfl k66.row (dM bE)) ?_;exact⟨_,rfl,_,rfl,gE _ _,b8.ext x9 (by omega),E08.aW x9 (fun b hb q=>by omega)⟩
theorem KV {n:Nat}(hws:Sl eN h O a n c l){i:Nat}(hi:i<n) :
 ∃b o k t l' xa xc,a=some ⟨b,o,none⟩/\(¬O b/\b<h.size)/\l[i]? =some (.mk k t l')/\Lw.rowAt h b (o+i*3) (lY k t xa l'.length xc)/\cL h O (.agg #[.int .i64 k,.string (bs t),.slice xa l'.length xc]) (.mk k t l'):=by
 obtain⟨b,o,x,cs,ha,hob,hx,hrow,hR⟩:=Sl.nd hws hi;obtain⟨k,t,l'⟩:=x;obtain⟨v,rfl,hs⟩:=iR hR;obtain⟨xa,xn,xc,rfl,hk⟩:=hs.open;have:=hk.len;subst this;exact⟨b,o,k,t,l',xa,xc,ha,⟨hob,cS hrow (by simp)⟩,hx,hrow,cL.of hR⟩
structure PW (hb:aj) (rb B d m:Nat) (env:List Bd) (l:List Tr) (O:Nat->Prop) (h:aj) (i:Nat) (ev':Value) (env':List Bd) (m':Nat) (v:Vl) (O':Nat->Prop) (g:aj):Prop where
 inv:o7 hb rb B O' g m' ev' env'
 more:iV h O O'
 here:O' h.size
 val:∃nk nt a n c ea en ec,aC g h.size 30 (iG v.kind v.num v.fO v.self nk nt a n c ea en ec)/\eV.R g O' (iG v.kind v.num v.fO v.self nk nt a n c ea en ec) v
 ext:Ext (fun b=>b=rb) h g
 le:i<=l.length
 ml:m'<=m
 vok:okV (B-2*m') v
 eq:kD (bp d) m env l gp=kD (bp d) m' env' (l.drop i) v
theorem Bz (ih:Lq hb rb B d){kv:Value}(I:o7 hb rb B O h m ev env) (hm:m<=d) (hk:aY eN h O kv l) (hl:∀x∈l,Cl aS x/\x.wt<=1000000) :
 av Tryz.prog 42 #[.pointer (some ⟨rb,0,none⟩),ev,kv] h (bq fun r h'=>Kt rb O h (kD (bp d) m env l gp) r h'):=by
 obtain⟨ka,kn,kc,rfl,hks⟩:=hk.open;have hkn:=hks.len;subst hkn;have hkc:=hks.le;have hkm:=hks.cap;unfold maxLen at hkm;have hrl:=I.BT;refine bP ?_;refine af ?_;refine xo rfl (cm) ?_;rintro _ h1 ⟨rfl,k6,e1,z1⟩;have k6:aC h1 h.size 30 (iG 0 0 [] [] 0 [] none 0 0 none 0 0):=k6;have m1:=cz O h h1;have I1:=I.wQ m1 e1 (iN I.lt e1.size);refine af ?_;refine gJ (σ:=Nat×Value×List Bd×Nat×Vl×(Nat->Prop)) (fun q=>[(1,q.2.1),(12,.int .i64 (q.1:Nat))]) (fun q h'=>PW hb rb B d m env l O h q.1 q.2.1 q.2.2.1 q.2.2.2.1 q.2.2.2.2.1 q.2.2.2.2.2 h') (fun q=>l.length-q.1) ((0,ev,env,m,gp,upTo O h h1)) ⟨I1,m1,.inr (by omega),⟨_,_,_,_,_,_,_,_,k6,yW _ _ 0 0 [] []⟩,e1.mono fun _ _ q=>q.elim,Nat.zero_le _,Nat.le_refl _,cM _,rfl⟩ rfl ?_;rintro⟨i,ev',env',m',v,O'⟩ g ⟨I',mo,o6,⟨nk,nt,xa,xn,xc,ea,en,ec,k6g,hRg⟩,E0g,hi,hml,hvok,heq⟩ ih2
 try dsimp only
 dsimp only at I' mo o6 k6g hRg hi hml hvok heq;have hzg:=E0g.size;refine af ?_;refine aP (fun hlt=>?_) (fun hlt=>?_)
 · obtain⟨b1,o1,k,t,l',na,nc,ha1,hb1,hx,hr1,hk1⟩:=KV hks (i:=i) (by omega);obtain⟨hcl,hwt⟩:=hl _ (List.mem_of_getElem? hx);have hb1r:b1≠rb:=fun q=>hb1.1 (q▸I.own)
   have hr1':=E0g.rowAt hb1r hr1
   have hdr:l.drop i= .mk k t l'::l.drop (i+1):=by
    obtain⟨hil,hxe⟩:=List.getElem?_eq_some_iff.1 hx;rw[List.drop_eq_getElem_cons hil,hxe]
   have heq2:=heq;rw[hdr,kD] at heq2
   iterate 4 refine aR ?_
   refine de ?_;refine xp rfl (cK rfl rfl i rfl ha1) ?_;refine xp rfl (bV rfl hr1') ?_;refine xo rfl (cm) ?_;rintro _ g1 ⟨rfl,k9,e1',z1'⟩;refine aH rfl (aK rfl rfl k9 jH) ?_;rintro _ g2 ⟨rfl,k92,x2,z2⟩;have k92:aC g2 g.size 27 [.int .i64 k,.string (bs t),.slice na l'.length nc]:=k92;have e2:aq g g2:=aq.only e1' x2 (Nat.le_refl _);have m2:=cz O' g g2;have I2:=I'.wQ m2 e2 (iN I'.lt e2.size);have m4:iV h O (upTo O' g g2):=⟨fun b q=>m2.1 b (mo.1 b q),fun b q=>(m2.2 b q).elim (mo.2 b) (fun q=>.inr (by omega))⟩
   have hk2:=hk1.mv (iV.mv m4 I.own (E0g.trans (e2.mono fun _ _ q=>q.elim)));have oo:=iQ B d m' env' (.mk k t l') I'.mB I'.ok hwt;have hih:=ih I2 (by omega) hk2 hcl hwt;generalize bp d m' env' (.mk k t l')=o at hih oo heq2;obtain⟨w,e,m2'⟩:=o;obtain⟨hm2,hvk,hlt2⟩:=oo;dsimp only at hm2 hvk hlt2 heq2;have hgl:=I'.lt _ o6;have hgr:=I'.BT;refine af ?_;refine xp rfl (bV rfl k92.row) ?_;refine xo rfl (aF rfl hih) ?_;rintro _ g3 ⟨v3,rfl,hv3,b3,e3⟩;dsimp only at hv3 b3;obtain⟨nk3,nt3,ya,yn,yc,fa,fm,fc,rfl,_,hR3,_⟩:=cG.get hv3;have E23:Ext (fun b=>b=rb) g g3:=(e2.mono fun _ _ q=>q.elim).trans e3;have z23:=And.intro E23.size e3.size;have ze2:=e2.size;refine af ?_;refine aH rfl (aK rfl rfl ((k6g.ext E23 (by omega))) dX) ?_;rintro _ g4 ⟨rfl,k64,x4,z4⟩;have k64:aC g4 h.size 30 (iG w.kind w.num w.fO w.self nk3 nt3 ya yn yc fa fm fc):=k64;have o62:upTo O' g g2 h.size:=.inl o6;have hR4:=eV.mv hR3 (cC (fun _ q=>q) o62 x4);have b4:=b3.ext x4 (by omega);have E04:Ext (fun b=>b=rb) h g4:=(E0g.trans E23).aW x4 (fun b hb q=>by omega);have z04:=x4.size;have k94:=(k92.ext e3 (by omega)).ext x4 (by omega);refine af ?_;refine aP (fun he=>?_) (fun he=>?_)
   · rw[if_pos he] at heq2;rw[heq2];refine af ?_;refine xp rfl (au (H.dJ ) rfl) ?_;refine af ?_;refine aH rfl (aK rfl rfl k64) ?_;rintro _ g5 ⟨rfl,k65,x5,z5⟩;refine af ?_;refine bF (br rfl k65.row (dM bE)) ?_;exact⟨_,rfl,_,rfl,gE _ _,b4.ext x5 (by omega),E04.aW x5 (fun b hb q=>by omega)⟩
   · rw[if_neg he] at heq2;have he:=Classical.not_not.1 he;have hlt2:=hlt2 he
     have I4:o7 hb rb B (upTo O' g g2) g4 m2' ev' env':=⟨⟨by have:=I.ext.size;omega,fun b hb _=>(E04.block b (by have:=I.ext.size;omega) (by have:=I.hrb;omega)).trans (I.ext.block b hb (fun k=>k))⟩,b4,fun b q=>by (have:=iN I'.lt e2.size b q);omega,.inl I'.own,
      (I2.en.mv (Mv.cg e3 fun b _ hn=>⟨fun q=>hn (q▸ .inl I'.own),hn⟩)).mv (cC (fun _ q=>q) o62 x4),iu I'.ok hm2,by have:=I'.mB;omega,by have:=I'.mL;omega,I.hB,I.hrb⟩
     iterate 2 refine aR ?_
     refine dW [(35,.bool (decide (k=7/\l'.length=1)))] rfl ?_ ?_
     · refine af ?_;refine xp rfl (az rfl (k94.cell (i:=0) rfl)) ?_;refine af ?_;refine b9 30 (fun p=>?_) (fun p=>?_)
       · have p:=of_decide_eq_true p;refine af ?_;refine xp rfl (az rfl (k94.cell (i:=2) rfl)) ?_;refine af ?_;exact aA rfl ⟨ai rfl (by rw[decide_eq_decide];exact⟨fun q=>⟨p,by omega⟩,fun q=>by omega⟩),sb rfl⟩
       · have p:=of_decide_eq_false p;refine af ?_;exact aA rfl ⟨ai rfl (by rw[decide_eq_false (fun q=>p q.1)]),sb rfl⟩
     · refine fF (fun hc=>?_) (fun hc=>?_)
       · have hc:=of_decide_eq_true hc;have hc':(Tr.mk k t l').kind=7/\(Tr.mk k t l').kids.length=1:=hc;rw[if_pos hc'] at heq2;refine af ?_;refine xp rfl (bV rfl k64.row) ?_;refine af ?_;refine xp rfl (az rfl (k94.cell (i:=1) rfl)) ?_;refine xo rfl (aF rfl (wN (cG.of hR4) t)) ?_;rintro _ g5 ⟨hv5,e5⟩;obtain⟨nk5,nt5,ua,un,uc,wa,wm,wc,rfl,_,hR5,_⟩:=cG.get hv5;refine aH rfl (aK rfl rfl ((k64.ah e5)) dX) ?_;rintro _ g6 ⟨rfl,k66,x6,z6⟩;have k66:aC g6 h.size 30 (iG (mG w t).kind (mG w t).num (mG w t).fO (mG w t).self nk5 nt5 ua un uc wa wm wc):=k66;have hR6:=eV.mv hR5 (cC (fun _ q=>q) o62 x6);have k96:=(k94.ah e5).ext x6 (by omega);have z56:=And.intro e5.size x6.size;have hen6:=(I4.en.mv (Mv.ah e5)).mv (cC (fun _ q=>q) o62 x6);have hel:env'.length<=1000000:=by have:=I4.ok.1;have:=I.hB;omega
         refine af ?_;refine xp rfl (az rfl (k96.cell (i:=1) rfl)) ?_;refine xp rfl (bV rfl k66.row) ?_;refine xo rfl (aF rfl (iY hen6 hel t (cG.of hR6))) ?_;rintro r7 g7 ⟨ho7,e7⟩;have E47:Ext (fun b=>b=h.size) g4 g7:=((e5.mono fun _ _ q=>q.elim).trans x6).trans (e7.mono fun _ _ q=>q.elim);have E07:Ext (fun b=>b=rb) h g7:=E04.aW E47 (fun b hb q=>by omega);have z7:=e7.size;have hlu:=iN I'.lt e2.size;refine af ?_;have zI:=I.ext.size;have I7:o7 hb rb B (upTo O' g g2) g7 m2' r7 (env'++[(t,mG w t)]):=⟨⟨by omega,fun b hb _=>(E07.block b (by omega) (by have:=I.hrb;omega)).trans (I.ext.block b hb (fun k=>k))⟩,b4.ext E47 (by omega),fun b q=>by (have:=hlu b q);omega,.inl I'.own,ho7.read (fun b hb q=>by (have:=hlu b q);omega) (fun _ _ q=>q),kM I'.ok hlt2 I'.mB (nB hvk t) t,by have:=I'.mB;omega,by have:=I'.mL;omega,I.hB,I.hrb⟩
         exact ih2 (i+1,r7,env'++[(t,mG w t)],m2',mG w t,upTo O' g g2) ⟨I7,m4,o62,⟨_,_,_,_,_,_,_,_,k66.ah e7,eV.mv hR6 (Mv.ah e7)⟩,E07,by show i+1<=_;omega,by dsimp only;omega,nB hvk t,heq2⟩
       · have hc:=of_decide_eq_false hc;have hc':¬((Tr.mk k t l').kind=7/\(Tr.mk k t l').kids.length=1):=hc;rw[if_neg hc'] at heq2;refine af ?_;exact ih2 (i+1,ev',env',m2',w,upTo O' g g2) ⟨I4,m4,o62,⟨_,_,_,_,_,_,_,_,k64,hR4⟩,E04,by show i+1<=_;omega,by dsimp only;omega,hvk,heq2⟩
 · obtain rfl:i=l.length:=by omega
   rw[heq,List.drop_of_length_le (Nat.le_refl _),kD];have hgl:=I'.lt _ o6;have hgr:=I'.BT;have hor:rb≠h.size:=by omega
   refine af ?_;refine xp rfl (bV rfl k6g.row) ?_;refine aH rfl (aK rfl rfl k6g dX) ?_;rintro _ g5 ⟨rfl,k65,x5,z5⟩;refine af ?_;refine bF (br rfl k65.row (dM bE)) ?_;exact⟨_,rfl,_,rfl,cG.of (eV.mv hRg (cC mo.1 o6 x5)),I'.blk.ext x5 hor,E0g.aW x5 (fun b hb q=>by omega)⟩
def BR (h:aj) (g:Nat):Prop:=∃t f tp p,h[g]? =some (.cells #[.iface tp p] t f)
theorem BR.ah {h':aj}{g:Nat}(k:BR h g) (e:aq h h'):BR h' g:=by
 obtain⟨t,f,tp,p,hk⟩:=k;exact⟨t,f,tp,p,(e.block g (Array.getElem?_eq_some_iff.1 hk).1 (fun k=>k)).trans hk⟩
theorem BR.var {w:World}{g:Nat}(k:BR w.heap g){n:String}(hg:Tryz.prog.globalNamed n=some g):∃tp p,w.var? Tryz.prog n=some #[.iface tp p]:=by
 obtain⟨t,f,tp,p,hk⟩:=k;exact⟨tp,p,by simp[World.var?,hg,hk]⟩
structure FD (h:aj):Prop where
 ex:Iq h
 syn:BR h 5
 rng:BR h 6
theorem FD.ah {h h':aj}(k:FD h) (e:aq h h'):FD h':=⟨k.ex.ah e,k.syn.ah e,k.rng.ah e⟩
theorem vY (hg:FD h) (s:By) (hs:s.length<=1000000):av Tryz.prog 38 #[.string (bs s),.int .i64 10,.int .i64 64] h (bq fun r h' =>
 (∃n e,r=packed [.int .i64 n,e]/\((Lib.parseIntB 64 s= .ok n/\e= .nilIface)\/((∀v,Lib.parseIntB 64 s≠ .ok v)/\∃tp p,e= .iface tp p)))/\aq h h'):=by
 have hz:=aL s;refine av.pL fun w hw=>?_
 subst hw;have hd:(bs s).data.toList=s:=ig s
 match ha:Lib.parseIntB 64 s with
 |.ok v =>
  refine(Tryz.strconv_ParseInt_10_at64_ok (bs s) (by omega) v (by rw[hd];exact ha) w).mono ?_;rintro e w' ⟨rfl,rfl|⟨t,rfl⟩⟩
  · exact⟨_,rfl,⟨⟨_,_,rfl,.inl ⟨rfl,rfl⟩⟩,Ext.refl _ _⟩,rfl,rfl,rfl⟩
  · have hb:=Lib.bytesWorld_below w 5 t;exact⟨_,rfl,⟨⟨_,_,rfl,.inl ⟨rfl,rfl⟩⟩,oY hb⟩,hb.os,hb.tape,hb.output⟩
 |.syntax =>
  obtain⟨tp,p,hv⟩:=hg.syn.var (n:= "strconv.ErrSyntax") (by kernel_rfl);refine(Tryz.strconv_ParseInt_10_at64_syntax_var (bs s) (by omega) (by rw[hd];exact ha) tp p w hv).mono ?_;rintro e w' ⟨N,rfl,_,_,hb⟩;exact⟨_,rfl,⟨⟨_,_,rfl,.inr ⟨(fun v hv=>by cases hv),_,_,rfl⟩⟩,oY hb⟩,hb.os,hb.tape,hb.output⟩
 |.range =>
  obtain⟨tp,p,hv⟩:=hg.rng.var (n:= "strconv.ErrRange") (by kernel_rfl);refine(Tryz.strconv_ParseInt_10_at64_range_var (bs s) (by omega) (by rw[hd];exact ha) tp p w hv).mono ?_;rintro e w' ⟨N,rfl,_,_,hb⟩;exact⟨_,rfl,⟨⟨_,_,rfl,.inr ⟨(fun v hv=>by cases hv),_,_,rfl⟩⟩,oY hb⟩,hb.os,hb.tape,hb.output⟩
theorem E9 (d:Nat) (env:List Bd) (n:Tr):bp d 0 env n=(gp,60,0):=by
 cases d with
 |zero=>rfl
 |succ d=>cases n;rfl
theorem xD {n:Tr}(I:o7 hb rb B O h 0 ev env) (hn:cL h O nv n) :
 av Tryz.prog 20 #[.pointer (some ⟨rb,0,none⟩),ev,nv] h (bq fun r h'=>Kt rb O h (bp d 0 env n) r h'):=by
 rw[E9];obtain⟨k,t,l⟩:=n;obtain⟨na,nn,nc,rfl,hR,hks⟩:=iB hn;have hrl:=I.BT;refine bP ?_;refine af ?_;refine xo rfl (iF) ?_;rintro _ h1 ⟨rfl,k5,e1,z1⟩;refine xo rfl (cm) ?_;rintro _ h2 ⟨rfl,k6,e2,z2⟩;have e12:=e1.trans e2;have b2:=I.blk.ah e12;refine af ?_;refine xp rfl (az rfl (b2.cell (i:=0) rfl)) ?_;refine af ?_;refine aP (fun hs=>?_) (fun hs=>?_)
 · refine af ?_;refine xp rfl (au (H.dJ ) rfl) ?_;refine aH rfl (aK rfl rfl k6) ?_;rintro _ h3 ⟨rfl,k63,x3,z3⟩;refine af ?_;refine bF (br rfl k63.row (dM bE)) ?_;exact⟨_,rfl,_,rfl,gE _ _,b2.ext x3 (by omega),(e12.mono fun _ _ q=>q.elim).aW x3 (fun b hb q=>by omega)⟩
 · exact absurd rfl hs
theorem Ht (h:∀v,Lib.parseIntB 64 t≠ .ok v):bp (d+1) (m+1) env (.mk 0 t l)=(gp,2,m):=by
 rw[bp,if_pos rfl];cases hq:Lib.parseIntB 64 t with
 |ok v=>exact absurd hq (h v)
 | «syntax» =>rfl
 |range=>rfl
theorem Jj {v:Int}(h:Lib.parseIntB 64 t= .ok v):bp (d+1) (m+1) env (.mk 0 t l)=(fT v,0,m):=by
 rw[bp,if_pos rfl,h]
theorem Fa (hg:FD hb) (ih:Lq hb rb B d) (I:o7 hb rb B O h (m+1) ev env) (hm:m<=d) (hn:cL h O nv (.mk k t l)) (hc:Cl aS (.mk k t l)) (hw:(Tr.mk k t l).wt<=1000000) :
 av Tryz.prog 20 #[.pointer (some ⟨rb,0,none⟩),ev,nv] h (bq fun r h'=>Kt rb O h (bp (d+1) (m+1) env (.mk k t l)) r h'):=by
 obtain⟨na,nn,nc,rfl,hR,hks⟩:=iB hn;have hkn:=hks.len;subst hkn;have hrl:=I.BT;have hmL:=I.mL;have htl:t.length<=1000000:=by rw[Tr.wt] at hw;omega
 have hbt:=aL t;have hel:env.length<=1000000:=by have:=I.ok.1;have:=I.hB;omega
 refine bP ?_;refine af ?_;refine xo rfl (iF) ?_;rintro _ h1 ⟨rfl,k5,e1,z1⟩;refine xo rfl (cm) ?_;rintro _ h2 ⟨rfl,k6,e2,z2⟩;have e12:=e1.trans e2;have b2:=I.blk.ah e12;have k5:aC h2 h.size 27 [.int .i64 k,.string (bs t),.slice na l.length nc]:=k5.ah e2;refine af ?_;refine xp rfl (az rfl (b2.cell (i:=0) rfl)) ?_;refine af ?_;refine aP (fun hs=>?_) (fun hs=>?_)
 · exact absurd hs (by omega)
 · refine af ?_;refine xp rfl (az rfl (b2.cell (i:=0) rfl)) ?_;refine af ?_;refine aH rfl (kY rfl rfl b2) ?_;rintro _ h3 ⟨rfl,b3,x3,z3⟩
   have b3:aC h3 rb 67 [.int .i64 (2000-(m:Int))]:=by
    rw[show (2000-(m:Int))=2000-((m+1:Nat):Int)+1 by omega];exact b3
   have E03:Ext (fun b=>b=rb) h h3:=(e12.mono fun _ _ q=>q.elim).trans x3;have zz:=And.intro e12.size x3.size;have m3:=cz O h h2;obtain⟨O3,hO3⟩:∃O3,O3=upTo O h h2:=⟨_,rfl⟩
   rw[<-hO3] at m3
   have l3:∀b,O3 b->b<h3.size:=fun b q=>by
    rw[hO3] at q
    rcases q with q|q
    · have:=I.lt b q;omega
    · omega
   have o6:O3 h1.size:=by rw[hO3];exact .inr (by omega)
   have I3:o7 hb rb B O3 h3 m ev env:=I.next m3 (Nat.le_succ m) E03 b3 l3
   have k53:=k5.ext x3 (by omega);have k63:=k6.ext x3 (by omega);have hn3:=hn.mv (iV.mv m3 I.own E03)
   have hks3:Sl eN h3 O3 na l.length nc l:=by
    obtain⟨a',n',c',hv,_,hk'⟩:=iB hn3;have:=congrArg (fun v=>match v with|Value.agg c=>c[2]? |_=>none) hv;simp at this;obtain⟨rfl,rfl,rfl⟩:=this;exact hk'
   refine af ?_;refine xp rfl (az rfl (k53.cell (i:=0) rfl)) ?_;refine af ?_;have hR3:=cC (O:=O) m3.1 o6 (g:=h3) (g':=h3) (Ext.refl _ _);refine aP (fun c0=>?_) (fun c0=>?_)
   · subst c0;refine af ?_;refine xp rfl (az rfl (k53.cell (i:=1) rfl)) ?_;refine xo rfl (aF rfl (vY (hg.ah I3.ext) t htl)) ?_;rintro _ h4 ⟨⟨n,e,rfl,hp⟩,e4⟩;have E04:=E03.trans (e4.mono fun _ _ q=>q.elim);have z4:=e4.size
     rcases hp with ⟨hp,rfl⟩|⟨hp,tp,p,rfl⟩
     · rw[Jj hp]
       iterate 5 refine aZ ?_
       refine cV ?_
       iterate 2 refine aR ?_
       refine de ?_;refine aZ ?_;refine xp rfl (ay.pP underlying111 rfl (.inl rfl)) ?_;refine af ?_;refine eC rfl (by simp[mO]) ?_;refine af ?_;refine xp rfl (au (H.iy _ _) rfl) ?_;refine aH rfl (aK rfl rfl ((k63.ah e4)) dX) ?_;rintro _ h9 ⟨rfl,k9,x9,z9⟩;refine af ?_;refine bF (br rfl k9.row (dM bE)) ?_;exact⟨_,rfl,_,rfl,(tO _ _ _),((b3.ah e4)).ext x9 (by omega),(E04).aW x9 (fun b hb q=>by omega)⟩
     · rw[Ht hp]
       iterate 5 refine aZ ?_
       refine cV ?_
       iterate 2 refine aR ?_
       refine de ?_;refine aZ ?_;refine xp rfl (ay.pP underlying111 rfl (.inr ⟨_,_,rfl⟩)) ?_;refine af ?_;refine eu rfl (by simp[mO]) ?_;refine af ?_;refine xp rfl (au (H.dJ ) rfl) ?_;refine aH rfl (aK rfl rfl ((k63.ah e4))) ?_;rintro _ h9 ⟨rfl,k9,x9,z9⟩;refine af ?_;refine bF (br rfl k9.row (dM bE)) ?_;exact⟨_,rfl,_,rfl,gE _ _,((b3.ah e4)).ext x9 (by omega),(E04).aW x9 (fun b hb q=>by omega)⟩
   · rw[bp,if_neg c0];obtain⟨hv1,hv2⟩:(bY k).1<=l.length/\l.length<=(bY k).2:=uZ hc c0;refine af ?_;refine aP (fun c1=>?_) (fun c1=>?_)
     · rw[if_pos c1];refine af ?_;refine xp rfl (az rfl (k53.cell (i:=1) rfl)) ?_;refine af ?_;refine aP (fun hbig=>?_) (fun hbig=>?_)
       · rw[if_pos (by omega)];refine af ?_;refine xp rfl (au (H.dJ ) rfl) ?_;refine aH rfl (aK rfl rfl k63) ?_;rintro _ h9 ⟨rfl,k9,x9,z9⟩;refine af ?_;refine bF (br rfl k9.row (dM bE)) ?_;exact⟨_,rfl,_,rfl,gE _ _,(b3).ext x9 (by omega),(E03).aW x9 (fun b hb q=>by omega)⟩
       · rw[if_neg (by omega)];refine af ?_;refine xp rfl (az rfl (k53.cell (i:=1) rfl)) ?_;refine xp rfl (au (H.BC _ _) rfl) ?_;refine aH rfl (aK rfl rfl k63 dX) ?_;rintro _ h9 ⟨rfl,k9,x9,z9⟩;refine af ?_;refine bF (br rfl k9.row (dM bE)) ?_;exact⟨_,rfl,_,rfl,(J1 _ _ _),(b3).ext x9 (by omega),(E03).aW x9 (fun b hb q=>by omega)⟩
     · rw[if_neg c1];refine af ?_;refine aP (fun c2=>?_) (fun c2=>?_)
       · rw[if_pos c2];have htt:decide (bs t=⟨#[116,114,117,101]⟩)=decide (t=iq):=by rw[decide_eq_decide];exact⟨fun q=>aI q,fun q=>by rw[q];rfl⟩
         refine af ?_;refine xp rfl (az rfl (k53.cell (i:=1) rfl)) ?_;refine af ?_;refine xo rfl (aF rfl (cQ _)) ?_;rintro _ h4 ⟨rfl,e4⟩;have z4:=e4.size;rw[htt];refine aH rfl (aK rfl rfl ((k63.ah e4)) dX) ?_;rintro _ h9 ⟨rfl,k9,x9,z9⟩;refine af ?_;refine bF (br rfl k9.row (dM bE)) ?_;exact⟨_,rfl,_,rfl,(nS _ _ _),((b3.ah e4)).ext x9 (by omega),((E03.trans (e4.mono fun _ _ q=>q.elim))).aW x9 (fun b hb q=>by omega)⟩
       · rw[if_neg c2];refine af ?_;refine aP (fun c3=>?_) (fun c3=>?_)
         · rw[if_pos c3];refine af ?_;refine xp rfl (az rfl (k53.cell (i:=1) rfl)) ?_;refine xo rfl (aF rfl (EZ I3.en hel t)) ?_;rintro _ h4 ⟨v4,rfl,hv4,e4'⟩;have e4:Ext (fun b=>b=rb) h3 h4:=e4'.mono fun _ _ q=>q.elim
           have b4:=b3.ah e4';have z4:=e4.size;obtain⟨nk',nt',xa',xn',xc',ea',en',ec',rfl,_,hR4,_⟩:=cG.get hv4;refine af ?_;refine aH rfl (aK rfl rfl ((k63.ext e4 (by omega))) dX) ?_;rintro _ h9 ⟨rfl,k9,x9,z9⟩;refine af ?_;refine bF (br rfl k9.row (dM bE)) ?_;exact⟨_,rfl,_,rfl,cG.of (eV.mv hR4 (cC m3.1 o6 x9)),b4.ext x9 (by omega),(E03.trans e4).aW x9 (fun b hb q=>by omega)⟩
         · rw[if_neg c3];refine af ?_;refine aP (fun c8=>?_) (fun c8=>?_)
           · rw[if_pos c8];subst c8;have hv1:1<=l.length:=hv1;obtain⟨b1,o1',k1,t1,a1,n1,c1',ha1,hb1,hr1,hk1⟩:=fX hks3 (i:=0) (by omega);refine af ?_;refine Ij 11 9 ?_;refine aG 0 ?_;refine bC 1 rfl (fun h' e=>az rfl (e.cell (by dsimp only;omega) (k53.cell (i:=1) rfl))) ?_;refine aG 2 ?_;refine bC 3 rfl (fun h' e=>az rfl (e.cell (by dsimp only;omega) (k53.cell (i:=2) rfl))) ?_;refine bC 4 rfl (fun h' e=>cK rfl rfl 0 rfl ha1) ?_;refine bC 5 rfl (fun h' e=>bV rfl (e.rowAt (by omega) hr1)) ?_;refine aG 6 ?_;refine cU 7 rfl (aF rfl (lN I3.en hel)) ?_;rintro r4 h4 ⟨ho4,e4⟩;refine⟨fun _=>e4.of,?_⟩;have hen4:=ho4.read (O':=O3) (fun b hb q=>by have:=l3 b q;omega) (fun _ _ q=>q);obtain⟨ua,un,uc,rfl,_⟩:=id hen4.open;have z4:=e4.size;obtain⟨cs',hcs',hRk⟩:=hk1.mv (Mv.ah e4);obtain rfl:[Value.int .i64 k1,.string (bs t1),.slice a1 n1 c1']=cs':=by have:=congrArg (fun v=>match v with|Value.agg c=>c.toList|_=>[]) hcs';simpa using this
             have hRv:eV.R h4 O3 (iG 4 0 t [] k1 t1 a1 n1 c1' ua un uc) (.mk 4 0 t [] (l.getD 0 cj) env):=qg hRk hen4;refine bC 8 rfl (fun h' e=>au (H.zu _ _ _ _ _ _ _ _) rfl) ?_;refine iA 9 rfl (aK rfl rfl ((k63.ah e4)) dX) ?_;rintro _ h9 ⟨rfl,k9,x9,z9⟩;refine⟨nofun,?_⟩;refine aG 10 ?_;refine gV ?_;refine bF (br rfl k9.row (dM bE)) ?_;exact⟨_,rfl,_,rfl,cG.of (eV.mv hRv (cC m3.1 o6 x9)),(b3.ah e4).ext x9 (by omega),(E03.trans (e4.mono fun _ _ q=>q.elim)).aW x9 (fun b hb q=>by omega)⟩
           · rw[if_neg c8];refine af ?_;refine aP (fun c10=>?_) (fun c10=>?_)
             · rw[if_pos c10]
               have hkids:∀x∈l,Cl aS x/\x.wt<=1000000:=fun x hx=>by
                obtain⟨i,hi,rfl⟩:=List.getElem_of_mem hx;have hgi:l.getD i cj=l[i]:=getD_at (List.getElem?_eq_getElem hi);have h1:=hc.xm i;have h2:=cH hw i;rw[hgi] at h1 h2;exact⟨h1,h2⟩
               refine af ?_;refine xp rfl (az rfl (k53.cell (i:=2) rfl)) ?_;refine xo rfl (aF rfl (Bz ih I3 hm hks3.shut hkids)) ?_;rintro _ h4 ⟨v4,rfl,hv4,b4,e4⟩;have z4:=e4.size;obtain⟨nk',nt',xa',xn',xc',ea',en',ec',rfl,_,hR4,_⟩:=cG.get hv4;refine af ?_;refine aH rfl (aK rfl rfl ((k63.ext e4 (by omega))) dX) ?_;rintro _ h9 ⟨rfl,k9,x9,z9⟩;refine af ?_;refine bF (br rfl k9.row (dM bE)) ?_;exact⟨_,rfl,_,rfl,cG.of (eV.mv hR4 (cC m3.1 o6 x9)),b4.ext x9 (by omega),(E03.trans e4).aW x9 (fun b hb q=>by omega)⟩
             · rw[if_neg c10];refine af ?_;refine aP (fun c7=>?_) (fun c7=>?_)
               · rw[if_pos c7];subst c7;refine af ?_;refine xp rfl (bV rfl k53.row) ?_;refine xo rfl (aF rfl (EM ih I3 hm hn3 hc hw)) ?_;rintro _ h4 ⟨v4,rfl,hv4,b4,e4⟩;have z4:=e4.size;obtain⟨nk',nt',xa',xn',xc',ea',en',ec',rfl,_,hR4,_⟩:=cG.get hv4;refine af ?_;refine aH rfl (aK rfl rfl ((k63.ext e4 (by omega))) dX) ?_;rintro _ h9 ⟨rfl,k9,x9,z9⟩;refine af ?_;refine bF (br rfl k9.row (dM bE)) ?_;exact⟨_,rfl,_,rfl,cG.of (eV.mv hR4 (cC m3.1 o6 x9)),b4.ext x9 (by omega),(E03.trans e4).aW x9 (fun b hb q=>by omega)⟩
               · rw[if_neg c7];refine af ?_;refine aP (fun c6=>?_) (fun c6=>?_)
                 · rw[if_pos c6];subst c6;refine af ?_;refine xp rfl (bV rfl k53.row) ?_;refine xo rfl (aF rfl (zj ih I3 hm hn3 hc hw)) ?_;rintro _ h4 ⟨v4,rfl,hv4,b4,e4⟩;have z4:=e4.size;obtain⟨nk',nt',xa',xn',xc',ea',en',ec',rfl,_,hR4,_⟩:=cG.get hv4;refine af ?_;refine aH rfl (aK rfl rfl ((k63.ext e4 (by omega))) dX) ?_;rintro _ h9 ⟨rfl,k9,x9,z9⟩;refine af ?_;refine bF (br rfl k9.row (dM bE)) ?_;exact⟨_,rfl,_,rfl,cG.of (eV.mv hR4 (cC m3.1 o6 x9)),b4.ext x9 (by omega),(E03.trans e4).aW x9 (fun b hb q=>by omega)⟩
                 · rw[if_neg c6];refine af ?_;refine aP (fun c9=>?_) (fun c9=>?_)
                   · rw[if_pos c9];subst c9;refine af ?_;refine xp rfl (bV rfl k53.row) ?_;refine xo rfl (aF rfl (CW hg.ex ih I3 hm hn3 hc hw)) ?_;rintro _ h4 ⟨v4,rfl,hv4,b4,e4⟩;have z4:=e4.size;obtain⟨nk',nt',xa',xn',xc',ea',en',ec',rfl,_,hR4,_⟩:=cG.get hv4;refine af ?_;refine aH rfl (aK rfl rfl ((k63.ext e4 (by omega))) dX) ?_;rintro _ h9 ⟨rfl,k9,x9,z9⟩;refine af ?_;refine bF (br rfl k9.row (dM bE)) ?_;exact⟨_,rfl,_,rfl,cG.of (eV.mv hR4 (cC m3.1 o6 x9)),b4.ext x9 (by omega),(E03.trans e4).aW x9 (fun b hb q=>by omega)⟩
                   · rw[if_neg c9];refine af ?_;refine aP (fun c4=>?_) (fun c4=>?_)
                     · rw[if_pos c4];subst c4;have hv1:1<=l.length:=hv1;obtain⟨b1,o1',k1,t1,a1,n1,c1',ha1,hb1,hr1,hk1⟩:=fX hks3 (i:=0) (by omega);have hih:=ih I3 hm hk1 (hc.xm 0) (cH hw 0);unfold Kv;generalize bp d m env (l.getD 0 cj)=o at hih ⊢;obtain⟨v,e,m'⟩:=o;dsimp only at hih ⊢;refine af ?_;refine xp rfl (az rfl (k53.cell (i:=2) rfl)) ?_;refine xp rfl (cK rfl rfl 0 rfl ha1) ?_;refine xp rfl (bV rfl hr1) ?_;refine xo rfl (aF rfl hih) ?_;rintro _ h4 ⟨v4,rfl,hv4,b4,e4⟩;dsimp only at hv4 b4;obtain⟨nk,nt,xa,xn,xc,ea,en,ec,rfl,_,hR4,_⟩:=cG.get hv4;refine af ?_;refine xo rfl (cm) ?_;rintro _ h5 ⟨rfl,k8,e5,z5⟩;refine aH rfl (aK rfl rfl k8 dX) ?_;rintro _ h6 ⟨rfl,k86,x6,z6⟩;have k86:aC h6 h4.size 30 (iG v.kind v.num v.fO v.self nk nt xa xn xc ea en ec):=k86;have e46:aq h4 h6:=aq.only e5 x6 (Nat.le_refl _);have z4:=And.intro e4.size e46.size;have E06:=(E03.trans e4).trans (e46.mono fun _ _ q=>q.elim);have k66:=(k63.ext e4 (by omega)).ah e46;have k56:=(k53.ext e4 (by omega)).ah e46;have b6:=b4.ah e46;refine af ?_;refine aP (fun he=>?_) (fun he=>?_)
                       · rw[if_pos he];refine af ?_;refine xp rfl (au (H.dJ ) rfl) ?_;refine af ?_;refine aH rfl (aK rfl rfl k66) ?_;rintro _ h9 ⟨rfl,k9,x9,z9⟩;refine af ?_;refine bF (br rfl k9.row (dM bE)) ?_;exact⟨_,rfl,_,rfl,gE _ _,(b6).ext x9 (by omega),(E06).aW x9 (fun b hb q=>by omega)⟩
                       · rw[if_neg he];refine af ?_;refine xp rfl (az rfl (k56.cell (i:=1) rfl)) ?_;refine xp rfl (bV rfl k86.row) ?_;refine xo rfl (aF rfl (zY (O:=O3) (x:=v) (cG.of (eV.mv hR4 (Mv.ah e46))) t)) ?_;rintro _ h7 ⟨v7,rfl,hv7,e7⟩;obtain⟨nk',nt',xa',xn',xc',ea',en',ec',rfl,_,hR7,_⟩:=cG.get hv7;have z7:=e7.size;refine af ?_;refine aH rfl (aK rfl rfl ((k66.ah e7)) dX) ?_;rintro _ h9 ⟨rfl,k9,x9,z9⟩;refine af ?_;refine bF (br rfl k9.row (dM bE)) ?_;exact⟨_,rfl,_,rfl,cG.of (eV.mv hR7 (cC m3.1 o6 x9)),(b6.ah e7).ext x9 (by omega),(E06.trans (e7.mono fun _ _ q=>q.elim)).aW x9 (fun b hb q=>by omega)⟩
                     · rw[if_neg c4]
                       obtain rfl:k=5:=by
                        rcases hc with q|q
                        · rw[V,bQ,Bool.and_eq_true] at q;have h1:=q.1;unfold jf at h1;simp only[Bool.and_eq_true,decide_eq_true_eq] at h1;omega
                        · cases q;exact absurd rfl c0
                       refine af ?_;refine xp rfl (bV rfl k53.row) ?_;refine xo rfl (aF rfl (zm ih I3 hm hn3 hc hw)) ?_;rintro _ h4 ⟨v4,rfl,hv4,b4,e4⟩;have z4:=e4.size;obtain⟨nk',nt',xa',xn',xc',ea',en',ec',rfl,_,hR4,_⟩:=cG.get hv4;refine af ?_;refine aH rfl (aK rfl rfl ((k63.ext e4 (by omega))) dX) ?_;rintro _ h9 ⟨rfl,k9,x9,z9⟩;refine af ?_;refine bF (br rfl k9.row (dM bE)) ?_;exact⟨_,rfl,_,rfl,cG.of (eV.mv hR4 (cC m3.1 o6 x9)),b4.ext x9 (by omega),(E03.trans e4).aW x9 (fun b hb q=>by omega)⟩
theorem uQ {hb:aj}(hg:FD hb) (rb B:Nat):∀d,Lq hb rb B d
 | 0=>by
  intro I hm hn hc hw;rename_i O h m ev nv env n;obtain rfl:m=0:=by omega
  exact xD I hn
 |d+1=>by
  intro I hm hn hc hw;rename_i O h m ev nv env n;cases m with
  |zero=>exact xD I hn
  |succ m =>
   obtain⟨k,t,l⟩:=n;exact Fa hg (uQ hg rb B d) I (by omega) hn hc hw
def gk (env:List Bd) (n:Tr):Vl×Int×Int:=if bQ aS n=true then ((if (bp 2000 2000 env n).2.1=0 then (bp 2000 2000 env n).1 else gp),2000-((bp 2000 2000 env n).2.2:Int),(bp 2000 2000 env n).2.1) else (gp,0,10)
theorem vM (hg:FD h){n:Tr}(hv:aY eB h O ev env) (hO:∀b,O b->b<h.size) (hok:vZ 900000 env) (hn:cL h O nv n) (hw:n.wt<=1000000) :
 av Tryz.prog 6 #[ev,nv] h (bq fun r h'=>∃v,r=packed [v,.int .i64 (gk env n).2.1,.int .i64 (gk env n).2.2]/\cG h' O v (gk env n).1/\aq h h'):=by
 obtain⟨k,t,l⟩:=n;obtain⟨na,nn,nc,rfl,hR,hks⟩:=iB hn;refine bP ?_;refine af ?_;refine xo rfl (iF) ?_;rintro _ h1 ⟨rfl,k3,e1,z1⟩;refine xo rfl (cm) ?_;rintro _ h2 ⟨rfl,k4,e2,z2⟩;have e12:=e1.trans e2;have k3:aC h2 h.size 27 [.int .i64 k,.string (bs t),.slice na nn nc]:=k3.ah e2;refine af ?_;refine xp rfl (bV rfl k3.row) ?_;refine xo rfl (aF rfl (rq hw (hg.ex.ah e12) (hn.mv (Mv.ah e12)))) ?_;rintro _ h3 ⟨rfl,e3⟩;have e13:=e12.trans e3;have k43:=k4.ah e3;have k33:=k3.ah e3;have zz:=And.intro e12.size e3.size;unfold gk;refine af ?_;refine fF (fun hq=>?_) (fun hq=>?_)
 · have hq:¬bQ aS (.mk k t l)=true:=by simpa using hq
   rw[if_neg hq];refine af ?_;refine xp rfl (au (H.dJ ) rfl) ?_;refine aH rfl (aK rfl rfl k43) ?_;rintro _ h4 ⟨rfl,k44,x4,z4⟩;refine af ?_;refine bF (br rfl k44.row (dM (dM bE))) ?_;exact⟨_,rfl,_,rfl,gE _ _,aq.only e13 x4 (by omega)⟩
 · have hq:bQ aS (.mk k t l)=true:=by simpa using hq
   rw[if_pos hq];refine af ?_;refine xp rfl (au (H.MP ) rfl) ?_;refine xo rfl (iF) ?_;rintro _ h4 ⟨rfl,k7,e4,z4⟩;have k7:aC h4 h3.size 67 [.int .i64 (2000-((2000:Nat):Int))]:=k7;have e14:=e13.trans e4;have m4:=cz O h h4;obtain⟨O4,hO4⟩:∃O4,O4=upTo O h h4:=⟨_,rfl⟩
   rw[<-hO4] at m4;have I4:o7 h h3.size 1000000 O4 h4 2000 ev env:=⟨e14,k7,fun b q=>by rw[hO4] at q;exact iN hO e14.size b q,by rw[hO4];exact .inr (by omega),hv.mv (m4.rI e14),hok.le (by decide),by decide,Nat.le_refl _,Nat.le_refl _,by omega⟩
   have hih:=uQ hg h3.size 1000000 2000 I4 (Nat.le_refl _) (hn.mv (m4.rI e14)) (.inl hq) hw;generalize bp 2000 2000 env (.mk k t l)=o at hih ⊢;obtain⟨v,e,m'⟩:=o;dsimp only at hih ⊢;have k44:=k43.ah e4;refine af ?_;refine xp rfl (bV rfl (k33.ah e4).row) ?_;refine xo rfl (aF rfl hih) ?_;rintro _ h5 ⟨v5,rfl,hv5,b5,e5⟩;dsimp only at hv5 b5;obtain⟨nk,nt,xa,xn,xc,ea,en,ec,rfl,_,hR5,_⟩:=cG.get hv5;refine af ?_;refine aH rfl (aK rfl rfl ((k44.ext e5 (by omega))) dX) ?_;rintro _ h6 ⟨rfl,k46,x6,z6⟩;have k46:aC h6 h1.size 30 (iG v.kind v.num v.fO v.self nk nt xa xn xc ea en ec):=k46;have z5:=e5.size;have z56:=x6.size;have o6:O4 h1.size:=by rw[hO4];exact .inr (by omega)
   have b6:=b5.ext x6 (by omega);have e06:aq h h6:=⟨by omega,fun b hb _=>by rw[x6.block b (by omega) (by omega),e5.block b (by omega) (by omega)];exact e14.block b hb (fun k=>k)⟩
   have hR6:=eV.mv hR5 (cC (fun _ q=>q) o6 x6);have hr6:¬h3.size=h1.size:=by omega
   refine af ?_;refine aP (fun he=>?_) (fun he=>?_)
   · rw[if_neg he];refine af ?_;refine kH 9 (fun b=>b=h1.size\/h6.size<=b) (fun i=>Nat.blt i 9) ?_;refine bC 0 rfl (fun h' e=>au (H.dJ ) rfl) ?_;refine aG 1 ?_;refine aG 2 ?_;refine aG 3 ?_;refine bC 4 rfl (fun h' e=>az rfl (e.cell (by dsimp only;omega) (b6.cell (i:=0) rfl))) ?_;refine aG 5 ?_;refine iA 6 rfl (aK rfl rfl k46) ?_;rintro _ h7 ⟨rfl,k47,x7,z7⟩;refine⟨fun _=>x7.mono (fun b _ q=>.inl q),?_⟩;refine aG 7 ?_;refine aG 8 ?_;refine gV ?_;refine bF (br rfl k47.row (dM (dM bE))) ?_;exact⟨_,rfl,_,rfl,gE _ _,aq.only e06 x7 (by omega)⟩
   · have he:=Classical.not_not.1 he;subst he;rw[if_pos rfl];refine af ?_;refine kH 8 (fun b=>h6.size<=b) (fun i=>Nat.blt i 8) ?_;refine bC 0 rfl (fun h' e=>bV rfl (e.rowAt (by omega) k46.row)) ?_;refine aG 1 ?_;refine aG 2 ?_;refine aG 3 ?_;refine bC 4 rfl (fun h' e=>az rfl (e.cell (by dsimp only;omega) (b6.cell (i:=0) rfl))) ?_;refine iA 5 rfl (aK rfl rfl k46 dX) ?_;rintro _ h7 ⟨rfl,k47,x7,z7⟩;refine⟨fun _=>(jg k46 k47 x7).mono (fun _ _ q=>q.elim),?_⟩;refine aG 6 ?_;refine aG 7 ?_;refine gV ?_;refine bF (br rfl k47.row (dM (dM bE))) ?_;exact⟨_,rfl,_,rfl,cG.of (eV.mv hR6 (cC m4.1 o6 x7)),aq.only e06 x7 (by omega)⟩
theorem Mo {α:Type}{l:List α}(h:l.length=3):∃a b c,l=[a,b,c]:=by
 match l,h with
 | [a,b,c],_=>exact⟨a,b,c,rfl⟩
theorem drop_cons {α:Type}{l:List α}{i:Nat}{x:α}(h:l[i]? =some x):l.drop i=x::l.drop (i+1):=by
 obtain⟨h1,h2⟩:=List.getElem?_eq_some_iff.1 h;rw[List.drop_eq_getElem_cons h1,h2]
def Lr (x:Tr):Prop:=∀(h:aj) (O:Nat->Prop) (v:Value),cL h O v x->av Tryz.prog 9 #[v] h (bq fun r h'=>aq h h'/\cL h' (fun b=>b<h.size) r x)
theorem K3 (hw:(Tr.mk k t l).wt<=1000000) (hk:∀x∈l,Lr x):Lr (.mk k t l):=by
 intro h O v hv;obtain⟨w,rfl,hw0⟩:=id hv.open;obtain⟨a,n,c,rfl,hws⟩:=id hw0.open;have hn:l.length=n:=hws.len;subst hn;have hcap:=hws.cap;have hle:=hws.le;simp only[maxLen] at hcap
 have hll:l.length<=1000000:=by
  have h2:=tE l false 0;have h4:(Tr.mk k t l).wt=2*t.length+20+Iv l:=by rw[Tr.wt]
  omega
 refine bP ?_;refine af ?_;refine xo rfl (iF) ?_;rintro _ h1 ⟨rfl,k1,e1,z1⟩;refine xo rfl (cm) ?_;rintro _ h2 ⟨rfl,k2,e2,z2⟩;have k1:aC h2 h.size 27 (lY k t a l.length c):=k1.ah e2;have k2:aC h2 h1.size 38 (lY 0 [] none 0 0):=k2;refine af ?_;refine xp rfl (az rfl (k1.cell (i:=0) rfl)) ?_;refine af ?_;refine xp rfl (az rfl (k1.cell (i:=1) rfl)) ?_;refine xp rfl (au (H.HO _ _) rfl) ?_;refine xo rfl (cm) ?_;rintro _ h3 ⟨rfl,k3,e3,z3⟩;refine aH rfl (aK rfl rfl k3 jH) ?_;rintro _ h4 ⟨rfl,k4,x4,z4⟩;have k4:aC h4 h2.size 38 (lY k t none 0 0):=k4;have k14:=(k1.ah e3).ext x4 (show ¬h.size=h2.size by omega);have k24:=(k2.ah e3).ext x4 (show ¬h1.size=h2.size by omega);have e04:aq h h4:=aq.only ((e1.trans e2).trans e3) x4 (by omega);refine af ?_;refine gJ (σ:=Nat×Value) (fun w=>[(4,.int .i64 (w.1:Nat))]) (fun w g=>w.1<=l.length/\aq h g/\aC g h.size 27 (lY k t a l.length c)/\aC g h1.size 38 (lY 0 [] none 0 0)/\aC g h2.size 38 [.int .i64 k,.string (bs t),w.2]/\cy eN (fun b=>b<=h2.size) g (h2.size+1) 38 w.2 (l.take w.1)) (fun w=>l.length-w.1) ((0,.slice none 0 0)) ⟨Nat.zero_le _,e04,k14,k24,k4,cy.nil _ _ _ _ _⟩ rfl ?_;rintro⟨i,ov⟩ g ⟨hi,eg,kg1,kg2,kg3,how⟩ ih
 try dsimp only
 dsimp only at hi kg3 how;have htl:(l.take i).length=i:=by rw[List.length_take];omega
 obtain⟨cells,hown⟩:=how.own;rw[htl] at hown;obtain⟨oa,oc,rfl,_⟩:=hown.open;have hol:∀b,(Value.slice oa i oc).ownBlock=some b->h2.size+1<=b/\b<g.size:=fun b q=>hown.lt q
 have kl3:=kg3.lt;refine af ?_;refine xp rfl (az rfl (kg1.cell (i:=2) rfl)) ?_;refine af ?_;refine aP (fun hlt=>?_) (fun hlt=>?_)
 · have hil:i<l.length:=by omega
   obtain⟨b,o,x,xk,xt,xa,xn,xc,ha,hx,hrow,hnx,_,_⟩:=oI hws hil;have hb:b<h.size:=cS hrow (by simp);have hrowg:=eg.rowAt (fun k=>k) hrow
   have hM:∀y,y<=h2.size->¬(cu (Value.slice oa i oc).ownBlock y\/Array.size g<=y):=fun y hy q=>by
    rcases q with q|q
    · have:=hol y q.symm;omega
    · omega
   have hM3:=hM h2.size (Nat.le_refl _);have hM1:=hM h.size (by omega);have hcall:=hk x (List.mem_of_getElem? hx) g O _ (hnx.mv (Mv.ah eg));refine af ?_;refine kH 12 (fun b=>cu (Value.slice oa i oc).ownBlock b\/Array.size g<=b) (fun i=>Nat.blt i 11) ?_;refine aG 0 ?_;refine bC 1 rfl (fun h' e=>az rfl (e.cell hM3 (kg3.cell (i:=2) rfl))) ?_;refine aG 2 ?_;refine bC 3 rfl (fun h' e=>az rfl (e.cell hM1 (kg1.cell (i:=2) rfl))) ?_;refine aG 4 ?_;refine bC 5 rfl (fun h' e=>cK rfl rfl i rfl ha) ?_;refine bC 6 rfl (fun h' e=>bV rfl (e.rowAt (hM _ (by omega)) hrowg)) ?_;refine cU 7 rfl (aF rfl hcall) ?_;rintro r5 h5 ⟨e5,hn5⟩;refine⟨fun _=>e5.of,?_⟩;obtain⟨mk,mt,ma,mn,mc,rfl,hr5⟩:=hn5.get;have how5:=how.ah e5;obtain⟨css,hc1,hc2,hc3⟩:=id how5;have hc2':aB h5 (h2.size+1) 38 3 (.slice oa i oc) i css.flatten:=by rw[htl] at hc2;exact hc2
   refine cU 8 rfl (sH) ?_;rintro _ _ ⟨rfl,rfl⟩;refine⟨fun _=>by first|exact Ext.push _ _ _|assumption,?_⟩;refine cU 9 rfl (wC rfl rfl hc2' rfl rfl (by omega) (by have:=e5.size;omega)) ?_;rintro v6 h6 ⟨ho6,hx6,hx6',hv6⟩;refine⟨fun _=>hx6'.mono (fun b _ q=>.inl q),?_⟩;have z5:=e5.size;have z6:=hx6.size;obtain⟨va,vc,rfl,_⟩:=ho6.open;have hne:∀y,y<=h2.size->¬cu (Value.slice oa i oc).ownBlock y:=fun y hy q=>by have:=hol y q.symm;omega
   refine aG 10 ?_;refine iA 11 rfl (kY rfl rfl (((kg3.ah e5).ext hx6 (hne _ (Nat.le_refl _))))) ?_;rintro _ h7 ⟨rfl,k7,x7,z7⟩;refine⟨nofun,?_⟩
   have hr5':eN.R h5 (fun b=>cu (Value.slice oa i oc).ownBlock b\/b<=h2.size) [.int .i64 mk,.string (bs mt),.slice ma mn mc] x:=bH hr5 (Ext.refl (fun _=>False) _) (fun y hy q=>⟨fun k=>k,fun q2=>by
    rcases q2 with q2|q2
    · have:=hol _ q2.symm;omega
    · omega⟩)
   have ho7:cy eN (fun b=>b<=h2.size) h6 (h2.size+1) 38 (.slice va (i+1) vc) (l.take i++[x]):=cy.fC (v:=.slice oa i oc) hc1 hc3 (by rw[htl];exact ho6) hx6 hv6 hr5';have hv7:∀y,(Value.slice va (i+1) vc).ownBlock=some y->h2.size+1<=y:=fun y q=>(ho6.lt q).1
   have ho8:=ho7.oZ x7 (fun y q q2=>by have:=hv7 y q;omega) (fun y hy q=>by omega) (fun _ _ q=>q);have e6:aq h h6:=Fy (eg.trans e5) (hx6.mono fun y _ q=>by have:=hol y q.symm;omega)
   refine gV ?_;refine af ?_;exact ih (i+1,.slice va (i+1) vc) ⟨hil,aq.only e6 x7 (by omega),((kg1.ah e5).ext hx6 (hne _ (by omega))).ext x7 (show ¬h.size=h2.size by omega),((kg2.ah e5).ext hx6 (hne _ (by omega))).ext x7 (show ¬h1.size=h2.size by omega),k7,by rw[List.take_add_one,hx];exact ho8⟩
 · obtain rfl:i=l.length:=by omega
   rw[List.take_length] at how;refine af ?_;refine xp rfl (bV rfl kg3.row) ?_;refine aH rfl (aK rfl rfl kg2 jH) ?_;rintro _ h5 ⟨rfl,k5,x5,z5⟩;refine af ?_;refine bF (br rfl k5.row bE) ?_;have how5:=how.oZ x5 (fun y q q2=>by have:=hol y q;omega) (fun y hy q=>by omega) (fun _ _ q=>q);exact⟨_,rfl,aq.only eg x5 (by omega),cL.shut (how5.read (fun y hy q=>by omega) (fun y hy q=>by omega))⟩
theorem Jr:∀(d:Nat) (x:Tr),x.dep<=d->x.wt<=1000000->Lr x:=by
 intro d
 induction d with
 |zero=>intro x hx;cases x with|mk k t l=>simp[Tr.dep] at hx
 |succ d ih =>
 intro x hd hw;cases x with
 |mk k t l=>exact K3 hw fun y hy=>ih y (by have:=sW (k:=k) (t:=t) hy;omega) (by have:=B5 (k:=k) (t:=t) hy;omega)
theorem nH (hw:x.wt<=1000000) (hv:cL h O v x):av Tryz.prog 9 #[v] h (bq fun r h'=>aq h h'/\cL h' (fun b=>b<h.size) r x):=Jr _ x (Nat.le_refl _) hw h O v hv
theorem zS (s:By):av Tryz.prog 135 #[.string (bs s)] h (bq fun r h'=>r= .bool (aS s)/\aq h h'):=by
 rw[D1];refine bP ?_;refine af ?_;refine xo rfl (jG [_,_,_,_,_,_,_,_,_,_]) ?_;rintro _ _ ⟨rfl,rfl⟩;refine af ?_;have m1:=lits (h:=h) pe 10 rfl (by decide);have e1:aq h (h.push (.cells (pe.map fun s=>Value.string (bs s)).toArray 9)):=Ext.push _ _ _;refine gJ (σ:=Nat) (fun i=>[(4,.int .i64 (i:Nat))]) (fun i h'=>h'=h.push (.cells (pe.map fun s=>Value.string (bs s)).toArray 9)/\i<=10/\∀j w,j<i->pe[j]? =some w->w≠s) (fun i=>10-i) (0) ⟨rfl,Nat.zero_le _,fun j w hj=>by omega⟩ rfl ?_;rintro i g ⟨hgq,hi,hin⟩ ih;rw[<-hgq] at m1 e1;obtain⟨oa,kn,kc,hv,q⟩:=m1.open;cases hv;refine af ?_;refine aP (fun hlt=>?_) (fun hlt=>?_)
 · have hi10:i<10:=by omega
   obtain⟨b,o,x,ha,_,hx,hc⟩:=q.at hi10;cases ha
   iterate 4 refine aR ?_
   refine de ?_
   iterate 3 refine aZ ?_
   refine xp rfl (cK rfl rfl i rfl rfl) ?_;refine xp rfl (az rfl hc) ?_;refine af ?_;refine aP (fun he=>?_) (fun he=>?_)
   · have he':x=s:=(aI he).symm;refine af ?_;refine bh ?_;exact⟨_,rfl,by rw[List.contains_iff_mem.2 (he'▸List.mem_of_getElem? hx)];rfl,e1⟩
   · have he':x≠s:=fun k=>he (by rw[k])
     have hnext:∀j w,j<i+1->i<=j->pe[j]? =some w->w≠s:=fun j w h1 h2 hw=>by
      obtain rfl:j=i:=by omega
      rw[hx] at hw;cases hw;exact he'
     refine af ?_;exact ih (i+1) ⟨hgq,by omega,fun j w hj hw=>by rcases Nat.lt_or_ge j i with k|k;exact hin j w k hw;exact hnext j w hj k hw⟩
 · obtain rfl:i=10:=by omega
   refine af ?_;refine bh ?_;exact⟨_,rfl,by rw[show pe.contains s=false from by rw[<-Bool.not_eq_true,List.contains_iff_mem];intro hm;obtain⟨j,hj,hjs⟩:=List.getElem_of_mem hm;exact hin j s (show j<10 from hj) (by rw[List.getElem?_eq_getElem hj,hjs]) rfl];rfl,e1⟩
theorem Ff (c:UInt8) (r:By):cO (c::r)=if jP c=true then cO r+1 else 0:=by
 unfold cO;rw[List.takeWhile_cons];split<;>rfl
theorem sV (s:By):cO s<=s.length:=by have:=Bq s;omega
theorem DG {n:Nat}{c:UInt8}(h:s[n]? =some c):cO (s.drop n)=if jP c=true then cO (s.drop (n+1))+1 else 0:=by
 rw[drop_cons h,Ff]
theorem dG (s:By) (hs:s.length<=1000000):av Tryz.prog 134 #[.string (bs s)] h (bq fun r h'=>r= .int .i64 (cO s:Nat)/\h'=h):=by
 have hbz:=aL s;refine bP ?_;refine af ?_;refine gJ (σ:=Nat) (fun n=>[(3,.int .i64 (n:Nat))]) (fun n g=>g=h/\n<=s.length/\cO s=n+cO (s.drop n)) (fun n=>s.length-n) (0) ⟨rfl,Nat.zero_le _,by rw[List.drop_zero,Nat.zero_add]⟩ rfl ?_;rintro n g ⟨rfl,hn,hd⟩ ih
 iterate 2 refine aR ?_
 refine dW [(19,.bool (decide (0<cO (s.drop n))))] rfl ?_ ?_
 · refine af ?_;refine b9 8 (fun a=>?_) (fun a=>?_)
   · have a:n<s.length:=by have:=of_decide_eq_true a;omega
     obtain⟨c,hc⟩:∃c,s[n]? =some c:=⟨_,List.getElem?_eq_getElem a⟩
     have hdc:=DG hc;rw[qM] at hdc;refine af ?_;refine xp rfl (sG rfl rfl n rfl (eJ hc)) ?_;refine af ?_;refine b9 14 (fun b=>?_) (fun b=>?_)
     · have b:=of_decide_eq_true b;refine af ?_;refine xp rfl (sG rfl rfl n rfl (eJ hc)) ?_;refine af ?_;exact aA rfl ⟨ai rfl (by rw[hdc,decide_eq_decide];simp only[decide_eq_true_eq];split<;>omega),sb rfl⟩
     · have b:=of_decide_eq_false b;refine af ?_;exact aA rfl ⟨ai rfl (by rw[hdc,if_neg (by simp only[decide_eq_true_eq];omega)];rfl),sb rfl⟩
   · have a:s.drop n=[]:=List.drop_eq_nil_of_le (by have:=of_decide_eq_false a;omega);refine af ?_;exact aA rfl ⟨ai rfl (by rw[a];rfl),sb rfl⟩
 · refine aP (fun hp=>?_) (fun hp=>?_)
   · have hlt:n<s.length:=by
      rcases Nat.lt_or_ge n s.length with q|q
      · exact q
      · rw[List.drop_eq_nil_of_le q] at hp;exact absurd hp (by decide)
     obtain⟨c,hc⟩:∃c,s[n]? =some c:=⟨_,List.getElem?_eq_getElem hlt⟩
     have hdc:=DG hc
     have hdc2:cO (s.drop n)=cO (s.drop (n+1))+1:=by
      split at hdc
      · exact hdc
      · omega
     refine af ?_;exact ih (n+1) ⟨rfl,hlt,by omega⟩
   · refine af ?_;refine bh ?_;exact⟨_,rfl,by rw[hd,show cO (s.drop n)=0 by omega];rfl,rfl⟩
def xw (s:By):Bool:=match s with|c::r=>decide (c=46) && decide (0<cO r)| []=>false
theorem Hg (s:By):xu s=if xw s=true then (s.drop 1).drop (cO (s.drop 1)) else s:=by
 cases s with
 |nil=>rfl
 |cons c r=>unfold xu xw;simp only[Bool.and_eq_true,decide_eq_true_eq];rfl
def Aa (s:By) (a b:UInt8):Bool:=decide (1<s.length) && jR s a b
theorem Jh (s:By):yY s=if Aa s 101 69=true then (if 0<cO (nV (s.drop 1)) then (nV (s.drop 1)).drop (cO (nV (s.drop 1))) else s) else s:=by
 match s with
 | []=>rfl
 | [c]=>rfl
 |c::d::r =>
  unfold yY Aa jR;have hl:decide (1<(c::d::r).length)=true:=decide_eq_true (by simp);simp only[hl,Bool.true_and,Bool.or_eq_true,decide_eq_true_eq,List.drop_succ_cons,List.drop_zero]
  by_cases h1:c=101\/c=69
  · rw[if_pos h1]
    by_cases h2:0<cO (nV (d::r))
    · rw[if_pos ⟨h1,h2⟩,if_pos h2]
    · rw[if_neg (fun q=>h2 q.2),if_neg h2]
  · rw[if_neg (fun q=>h1 q.1),if_neg h1]
theorem F9 (s:By):nV s=if jR s 43 45=true then s.drop 1 else s:=by
 cases s with
 |nil=>rfl
 |cons c r=>unfold nV jR;simp only[Bool.or_eq_true,decide_eq_true_eq,List.drop_succ_cons,List.drop_zero]
theorem xX (h:1<s.length):∃c d r,s=c::d::r:=by
 match s,h with
 |c::d::r,_=>exact⟨c,d,r,rfl⟩
theorem kP (s:By):s.isEmpty=decide (s=[]):=by cases s<;>rfl
theorem yE (s:By) (hs:s.length<=1000000):av Tryz.prog 90 #[.string (bs s)] h (bq fun r h'=>r= .bool (Cv s)/\h'=h):=by
 rw[IS];have hbz:=aL s;have hdl:=sV s;refine bP ?_;refine af ?_;refine xo rfl (aF rfl (dG s hs)) ?_;rintro _ h1 ⟨rfl,hh1⟩;subst hh1;refine af ?_;refine aP (fun h0=>?_) (fun h0=>?_)
 · refine af ?_;refine bh ?_;exact⟨_,rfl,by unfold GG;rw[decide_eq_false (by omega)];rfl,rfl⟩
 · have hn:GG s=(yY (xu (s.drop (cO s)))).isEmpty:=by unfold GG;rw[decide_eq_true (by omega),Bool.true_and]
   rw[hn];refine af ?_;refine xp rfl (ay.ct underlying9 rfl rfl (cO s) rfl (by omega)) ?_;rw[eI];obtain⟨s1,hs1⟩:∃s1,s1=s.drop (cO s):=⟨_,rfl⟩
   have hl1:s1.length<=s.length:=by rw[hs1,List.length_drop];omega
   rw[<-hs1,Hg];have hz1:=aL s1;refine aZ ?_;refine cV ?_
   iterate 2 refine aR ?_
   refine dW [(25,.bool (xw s1))] rfl ?_ ?_
   · refine af ?_;refine b9 15 (fun a=>?_) (fun a=>?_)
     · have a:1<s1.length:=by have:=of_decide_eq_true a;omega
       obtain⟨c,d,r,rfl⟩:=xX a;refine af ?_;refine xp rfl (sG rfl rfl 0 rfl (eJ (l:=c::d::r) rfl)) ?_;refine af ?_;refine b9 20 (fun b=>?_) (fun b=>?_)
       · have b:c=46:=by have b:=of_decide_eq_true b;exact UInt8.toNat_inj.1 (Int.ofNat.inj b)
         refine af ?_;refine xp rfl (ay.ct underlying9 rfl rfl 1 rfl (by omega)) ?_;rw[eI];refine xo rfl (aF rfl (dG ((c::d::r).drop 1) (by simp at hl1 ⊢;omega))) ?_;rintro _ h2 ⟨rfl,hh2⟩;subst hh2;refine af ?_;exact aA rfl ⟨ai rfl (by show _=(decide (c=46) && decide (0<cO (d::r)));rw[decide_eq_true b,Bool.true_and,decide_eq_decide];show (0:Int)<((cO (d::r):Nat):Int)↔_;omega),sb rfl⟩
       · have b:¬c=46:=fun q=>of_decide_eq_false b (by rw[q];rfl)
         refine af ?_;exact aA rfl ⟨ai rfl (by show _=(decide (c=46) && _);rw[decide_eq_false b];rfl),sb rfl⟩
     · have a:¬1<s1.length:=by have:=of_decide_eq_false a;omega
       refine af ?_;exact aA rfl ⟨ai rfl (by match s1,a with| [],_=>rfl| [c],_=>(show _=(decide (c=46) && decide (0<cO [])));simp[cO] |c::d::r,a=>(simp at a)),sb rfl⟩
   · have fin:∀(s2:By) (h':aj) (ρ':Env),Sub [(0,.string (bs s2))] ρ'->h'=h1->s2.length<=s.length->(if xw s1=true then (s1.drop 1).drop (cO (s1.drop 1)) else s1)=s2->G Tryz.prog 90 f90 [.code [1,1,1,1,1]] ρ' h' (bq fun r h'=>r= .bool (yY (if xw s1=true then (s1.drop 1).drop (cO (s1.drop 1)) else s1)).isEmpty/\h'=h1):=by
      rintro s2 h3 ρ' hsub rfl hl2 he;rw[he,Jh];have hz2:=aL s2;refine G.sub (ρ':=[(0,.string (bs s2))]) hsub ?_
      iterate 2 refine aR ?_
      refine dW [(44,.bool (Aa s2 101 69))] rfl ?_ ?_
      · refine af ?_;refine b9 35 (fun a=>?_) (fun a=>?_)
        · have a:1<s2.length:=by have:=of_decide_eq_true a;omega
          obtain⟨c,d,r,rfl⟩:=xX a;refine af ?_;refine xp rfl (sG rfl rfl 0 rfl (eJ (l:=c::d::r) rfl)) ?_;refine af ?_;refine b9 39 (fun b=>?_) (fun b=>?_)
          · refine af ?_;exact aA rfl ⟨ai rfl (by show _=(decide (1<(c::d::r).length) && (decide (c=101) ||decide (c=69)));rw[decide_eq_true a,<-fA c 101,<-fA c 69,show (((101:UInt8).toNat:Nat):Int)=101 from rfl,b];rfl),sb rfl⟩
          · refine af ?_;refine xp rfl (sG rfl rfl 0 rfl (eJ (l:=c::d::r) rfl)) ?_;refine af ?_;exact aA rfl ⟨ai rfl (by show _=(decide (1<(c::d::r).length) && (decide (c=101) ||decide (c=69)));rw[decide_eq_true a,<-fA c 101,<-fA c 69,show (((101:UInt8).toNat:Nat):Int)=101 from rfl,b];rfl),sb rfl⟩
        · have a:¬1<s2.length:=by have:=of_decide_eq_false a;omega
          refine af ?_;exact aA rfl ⟨ai rfl (by unfold Aa;rw[decide_eq_false a];rfl),sb rfl⟩
      · refine fF (fun hq=>?_) (fun hq=>?_)
        · rw[if_pos hq];have hlt:1<s2.length:=by unfold Aa at hq;rw[Bool.and_eq_true,decide_eq_true_iff] at hq;exact hq.1
          obtain⟨c,d,r,rfl⟩:=xX hlt;refine af ?_;refine xp rfl (ay.ct underlying9 rfl rfl 1 rfl (by omega)) ?_;rw[eI];rw[F9];have hz3:=aL (d::r);have hl3:(c::d::r).length=(d::r).length+1:=rfl;have hd1:(c::d::r).drop 1=d::r:=rfl;rw[hd1];refine aZ ?_;refine cV ?_
          iterate 2 refine aR ?_
          refine dW [(54,.bool (jR (d::r) 43 45))] rfl ?_ ?_
          · refine af ?_;refine xp rfl (sG rfl rfl 0 rfl (eJ (l:=d::r) rfl)) ?_;refine af ?_;refine b9 50 (fun b=>?_) (fun b=>?_)
            · refine af ?_;exact aA rfl ⟨ai rfl (by show _=(decide (d=43) ||decide (d=45));rw[<-fA d 43,<-fA d 45,show (((43:UInt8).toNat:Nat):Int)=43 from rfl,b];rfl),sb rfl⟩
            · refine af ?_;refine xp rfl (sG rfl rfl 0 rfl (eJ (l:=d::r) rfl)) ?_;refine af ?_;exact aA rfl ⟨ai rfl (by show _=(decide (d=43) ||decide (d=45));rw[<-fA d 43,<-fA d 45,show (((43:UInt8).toNat:Nat):Int)=43 from rfl,b];rfl),sb rfl⟩
          · refine fF (fun hg=>?_) (fun hg=>?_)
            · rw[if_pos hg];refine af ?_;refine xp rfl (ay.ct underlying9 rfl rfl 1 rfl (by rw[hz3];simp)) ?_;rw[eI];refine af ?_;refine xo rfl (aF rfl (dG ((d::r).drop 1) (by rw[List.length_drop];omega))) ?_;rintro _ h7 ⟨rfl,hh7⟩;subst hh7;refine af ?_;refine aP (fun hdg=>?_) (fun hdg=>?_)
              · have hdg:0<cO ((d::r).drop 1):=by omega
                rw[if_pos hdg];refine af ?_;refine xo rfl (aF rfl (dG ((d::r).drop 1) (by rw[List.length_drop];omega))) ?_;rintro _ h8 ⟨rfl,hh8⟩;subst hh8;refine xp rfl (ay.ct underlying9 rfl rfl (cO ((d::r).drop 1)) rfl (by have:=sV ((d::r).drop 1);rw[aL];omega)) ?_;rw[eI];refine af ?_;refine bh ?_;exact⟨_,rfl,by show Value.bool _=_;rw[kP,<-kC],rfl⟩
              · have hdg:¬0<cO ((d::r).drop 1):=by omega
                rw[if_neg hdg];refine af ?_;refine bh ?_;exact⟨_,rfl,by show Value.bool _=_;rw[kP,<-kC],rfl⟩
            · rw[if_neg (show ¬jR (d::r) 43 45=true by rw[hg];decide)];refine af ?_;refine xo rfl (aF rfl (dG (d::r) (by omega))) ?_;rintro _ h7 ⟨rfl,hh7⟩;subst hh7;refine af ?_;refine aP (fun hdg=>?_) (fun hdg=>?_)
              · have hdg:0<cO (d::r):=by omega
                rw[if_pos hdg];refine af ?_;refine xo rfl (aF rfl (dG (d::r) (by omega))) ?_;rintro _ h8 ⟨rfl,hh8⟩;subst hh8;refine xp rfl (ay.ct underlying9 rfl rfl (cO (d::r)) rfl (by have:=sV (d::r);rw[aL];omega)) ?_;rw[eI];refine af ?_;refine bh ?_;exact⟨_,rfl,by show Value.bool _=_;rw[kP,<-kC],rfl⟩
              · have hdg:¬0<cO (d::r):=by omega
                rw[if_neg hdg];refine af ?_;refine bh ?_;exact⟨_,rfl,by show Value.bool _=_;rw[kP,<-kC],rfl⟩
        · rw[if_neg (by rw[hq];decide)];refine af ?_;refine bh ?_;exact⟨_,rfl,by show Value.bool _=_;rw[kP,<-kC],rfl⟩
     refine fF (fun hp=>?_) (fun hp=>?_)
     · have hlt:1<=s1.length:=by cases s1 with|nil=>simp[xw] at hp|cons c r=>simp
       have hdl2:=sV (s1.drop 1);rw[List.length_drop] at hdl2;refine af ?_;refine xp rfl (ay.ct underlying9 rfl rfl 1 rfl (by omega)) ?_;rw[eI];refine xo rfl (aF rfl (dG (s1.drop 1) (by rw[List.length_drop];omega))) ?_;rintro _ h2 ⟨rfl,hh2⟩;subst hh2;refine af ?_;refine xp rfl (ay.ct underlying9 rfl rfl (1+cO (s1.drop 1)) (by omega) (by omega)) ?_;rw[eI];refine aZ ?_;refine cV ?_;exact fin _ _ _ (by exact sb rfl) rfl (by rw[List.length_drop];omega) (by rw[if_pos hp,List.drop_drop])
     · refine aR ?_;exact fin _ _ _ (by exact sb rfl) rfl hl1 (if_neg (by rw[hp];decide))
theorem Ob (c:UInt8):IntKind.u8.wrap ((BitVec.ofInt IntKind.u8.bits (c.toNat:Int) |||BitVec.ofInt IntKind.u8.bits 32).toNat:Int)=((c ||| 32).toNat:Int):=by
 have k:∀n:Fin 256,IntKind.u8.wrap ((BitVec.ofInt IntKind.u8.bits ((UInt8.ofFin n).toNat:Int) |||BitVec.ofInt IntKind.u8.bits 32).toNat:Int)=((UInt8.ofFin n ||| 32).toNat:Int):=by decide +kernel
 exact k c.toFin
theorem IP (n:Nat) (c:UInt8):wO n c=decide (((97<=(c ||| 32).toNat/\(c ||| 32).toNat<=122)\/c.toNat=95)\/(n≠0/\48<=c.toNat/\c.toNat<=57)):=by
 have k:∀n:Fin 256,isLet (UInt8.ofFin n)=decide ((97<=(UInt8.ofFin n ||| 32).toNat/\(UInt8.ofFin n ||| 32).toNat<=122)\/(UInt8.ofFin n).toNat=95):=by unfold isLet;decide +kernel
 have k2:isLet c=decide ((97<=(c ||| 32).toNat/\(c ||| 32).toNat<=122)\/c.toNat=95):=k c.toFin;unfold wO;rw[k2,qM,Bool.eq_iff_iff];simp only[Bool.or_eq_true,Bool.and_eq_true,decide_eq_true_eq]
theorem mC (s:By) (hs:s.length<=1000000):av Tryz.prog 91 #[.string (bs s)] h (bq fun r h'=>r= .bool (lD aS s)/\aq h h'):=by
 have hbz:=aL s;refine bP ?_;refine af ?_;refine gJ (σ:=Nat) (fun i=>[(3,.int .i64 (i:Nat))]) (fun i g=>g=h/\i<=s.length/\∀j c,j<i->s[j]? =some c->wO j c=true) (fun i=>s.length-i) (0) ⟨rfl,Nat.zero_le _,fun j c q=>by omega⟩ rfl ?_;rintro i g ⟨rfl,hi,hin⟩ ih;refine af ?_;refine aP (fun hlt=>?_) (fun hlt=>?_)
 · have hil:i<s.length:=by omega
   obtain⟨c,hc⟩:∃c,s[i]? =some c:=⟨_,List.getElem?_eq_getElem hil⟩
   have hok:=IP i c;refine af ?_;refine xp rfl (sG rfl rfl i rfl (eJ hc)) ?_;refine aZ ?_;refine cV ?_;refine aR ?_;refine de ?_;refine aZ ?_;refine xp rfl (ay.sY rfl rfl) ?_;refine aZ ?_;refine cV ?_;refine aR ?_;rw[Ob];obtain⟨L,hL⟩:∃L,L=(c ||| 32).toNat:=⟨_,rfl⟩
   rw[<-hL] at hok ⊢;refine dW [(39,.bool (!wO i c))] rfl ?_ ?_
   · rw[hok];refine af ?_;refine b9 19 (fun a=>?_) (fun a=>?_)
     · have a:=of_decide_eq_true a;refine af ?_;refine b9 23 (fun b=>?_) (fun b=>?_)
       · have b:=of_decide_eq_true b;refine af ?_;exact aA rfl ⟨ai rfl (by rw[decide_eq_true (by omega)]<;>rfl),sb rfl⟩
       · have b:=of_decide_eq_false b;refine af ?_;refine b9 27 (fun u=>?_) (fun u=>?_)
         · have u:=of_decide_eq_true u;refine af ?_;exact aA rfl ⟨ai rfl (by rw[decide_eq_true (by omega)]<;>rfl),sb rfl⟩
         · have u:=of_decide_eq_false u;refine af ?_;refine b9 30 (fun z=>?_) (fun z=>?_)
           · have z:=of_decide_eq_true z;refine af ?_;refine b9 34 (fun d=>?_) (fun d=>?_)
             · have d:=of_decide_eq_true d;refine af ?_;exact aA rfl ⟨ai rfl (by rw[<-decide_not,<-decide_not,decide_eq_decide];omega),sb rfl⟩
             · have d:=of_decide_eq_false d;refine af ?_;exact aA rfl ⟨ai rfl (by rw[decide_eq_false (by omega)]<;>rfl),sb rfl⟩
           · have z:=of_decide_eq_false z
             iterate 2 refine so ?_
             iterate 2 refine aZ ?_
             iterate 2 refine so ?_
             iterate 3 refine aZ ?_
             exact aA rfl ⟨ai rfl (by rw[decide_eq_false (by omega)]<;>rfl),sb rfl⟩
     · have a:=of_decide_eq_false a
       iterate 2 refine so ?_
       iterate 6 refine aZ ?_
       refine dD (d:=27) rfl (fun u=>?_) (fun u=>?_)
       · have u:=of_decide_eq_true u;refine af ?_;exact aA rfl ⟨ai rfl (by rw[decide_eq_true (by omega)]<;>rfl),sb rfl⟩
       · have u:=of_decide_eq_false u;refine af ?_;refine b9 30 (fun z=>?_) (fun z=>?_)
         · have z:=of_decide_eq_true z;refine af ?_;refine b9 34 (fun d=>?_) (fun d=>?_)
           · have d:=of_decide_eq_true d;refine af ?_;exact aA rfl ⟨ai rfl (by rw[<-decide_not,<-decide_not,decide_eq_decide];omega),sb rfl⟩
           · have d:=of_decide_eq_false d;refine af ?_;exact aA rfl ⟨ai rfl (by rw[decide_eq_false (by omega)]<;>rfl),sb rfl⟩
         · have z:=of_decide_eq_false z;refine af ?_;exact aA rfl ⟨ai rfl (by rw[decide_eq_false (by omega)]<;>rfl),sb rfl⟩
   · refine fF (fun hb=>?_) (fun hb=>?_)
     · have hb:wO i c=false:=by simpa using hb
       refine af ?_;refine bh ?_;exact⟨_,rfl,by rw[AJ aS hc hb];rfl,Ext.refl _ _⟩
     · have hb:wO i c=true:=by simpa using hb
       refine af ?_;exact ih (i+1) ⟨rfl,hil,fun j d hj hd=>(Nat.lt_succ_iff_lt_or_eq.1 hj).elim (fun q=>hin j d q hd) (fun q=>by subst q;rw[hc] at hd;cases hd;exact hb)⟩
 · iterate 2 refine aR ?_
   refine J0 (fun(u:Unit) (h':aj)=>aq g h') (fun(u:Unit)=>[(2,.bool (lD aS s))]) rfl ?_ ?_
   · refine af ?_;refine b9 43 (fun a=>?_) (fun a=>?_)
     · have h0:s≠[]:=fun q=>by rw[q] at a;exact absurd (of_decide_eq_true a) (by decide)
       refine af ?_;refine xo rfl (aF rfl (zS s)) ?_;rintro _ g1 ⟨rfl,e1⟩;refine af ?_;exact lg () e1 ⟨ai rfl (by rw[wT aS h0 (fun j c hj=>hin j c (by have:=(List.getElem?_eq_some_iff.1 hj).1;omega) hj)]),sb rfl⟩
     · have h0:s=[]:=List.eq_nil_of_length_eq_zero (by have:=of_decide_eq_false a;omega);refine af ?_;exact lg () (Ext.refl _ _) ⟨ai rfl (by rw[h0,wR]),sb rfl⟩
   · rintro u g1 e1;refine bh ?_;exact⟨_,rfl,rfl,e1⟩
def jt (k:Int):Int:=[0,0,0,0,1,2,3,-1,1,2,-2].getD k.toNat 0
theorem Ay (k:Int) (hk:0<=k/\k<=10):av Tryz.prog 49 #[.int .i64 k] h (bq fun r h'=>r= .int .i64 (jt k)/\h'=h):=by
 obtain⟨n,rfl⟩:∃n:Nat,k=n:=⟨k.toNat,by omega⟩
 have hn:n<11:=by omega
 have hv:(#[Value.int .i64 0,.int .i64 0,.int .i64 0,.int .i64 0,.int .i64 1,.int .i64 2,.int .i64 3,.int .i64 (-1),.int .i64 1,.int .i64 2,.int .i64 (-2)]:Array Value)[n]? =some (.int .i64 (jt n)):=by
  match n,hn with
  | 0,_=>rfl
  | 1,_=>rfl
  | 2,_=>rfl
  | 3,_=>rfl
  | 4,_=>rfl
  | 5,_=>rfl
  | 6,_=>rfl
  | 7,_=>rfl
  | 8,_=>rfl
  | 9,_=>rfl
  | 10,_=>rfl
 refine bP ?_;refine af ?_;refine xp rfl (au (H.iD _ _ _ _ _ _ _ _ _ _ _) rfl) ?_;refine af ?_;refine xp rfl (ay.qc underlying185 H.jM H.FB rfl rfl n rfl hn hv) ?_;refine af ?_;refine bh ?_;exact⟨_,rfl,rfl,rfl⟩
theorem HF:∀v∈dB.map wj,v.oneCell'=true:=fun v hv=>by obtain⟨x,_,rfl⟩:=List.mem_map.1 hv;rfl
theorem Cd (k:Int) (t:By) (ht:t.length<=1000000):av Tryz.prog 48 #[.int .i64 k,.string (bs t)] h (bq fun r h'=>r= .bool (cA aS k t)/\aq h h'):=by
 have hbz:=aL t;refine bP ?_;refine af ?_;refine aP (fun c0=>?_) (fun c0=>?_)
 · refine af ?_;refine xo rfl (aF rfl (yE t ht)) ?_;rintro _ h1 ⟨rfl,hh1⟩;refine af ?_;refine bh ?_;exact⟨_,rfl,by unfold cA;rw[if_pos c0];rfl,by rw[hh1];exact Ext.refl _ _⟩
 · refine af ?_;refine aP (fun c1=>?_) (fun c1=>?_)
   · refine af ?_;refine bh ?_;exact⟨_,rfl,by unfold cA;rw[if_neg c0,if_pos c1];show Value.bool _=_;rw[hbz];simp only[Value.bool.injEq,decide_eq_decide];omega,Ext.refl _ _⟩
   · refine af ?_;refine aP (fun c2=>?_) (fun c2=>?_)
     · refine aR ?_;refine dW [(4,.bool (decide (t=iq) ||decide (t=lz)))] rfl ?_ ?_
       · refine af ?_;refine b9 21 (fun g=>?_) (fun g=>?_)
         · have g:t=iq:=aI (m:=iq) (of_decide_eq_true g);refine af ?_;exact aA rfl ⟨ai rfl (by rw[decide_eq_true g];rfl),sb rfl⟩
         · have g:¬t=iq:=fun q=>of_decide_eq_false g (by rw[q];rfl)
           refine af ?_;exact aA rfl ⟨ai rfl (by rw[decide_eq_false g,Bool.false_or];exact DM t lz),sb rfl⟩
       · refine bh ?_;exact⟨_,rfl,by unfold cA;rw[if_neg c0,if_neg c1,if_pos c2];rfl,Ext.refl _ _⟩
     · refine af ?_;refine aP (fun c3=>?_) (fun c3=>?_)
       · refine af ?_;refine eu rfl (by simp[c3]) ?_;refine af ?_;refine xo rfl (aF rfl (mC t ht)) ?_;rintro _ h3 ⟨rfl,e3⟩;refine af ?_;refine bh ?_;exact⟨_,rfl,by unfold cA;rw[if_neg c0,if_neg c1,if_neg c2,if_pos (.inl c3)];rfl,e3⟩
       · refine af ?_;refine aP (fun c7=>?_) (fun c7=>?_)
         · refine af ?_;refine eu rfl (by simp[c7]) ?_;refine af ?_;refine xo rfl (aF rfl (mC t ht)) ?_;rintro _ h3 ⟨rfl,e3⟩;refine af ?_;refine bh ?_;exact⟨_,rfl,by unfold cA;rw[if_neg c0,if_neg c1,if_neg c2,if_pos (.inr (.inl c7))];rfl,e3⟩
         · refine af ?_;refine aP (fun c8=>?_) (fun c8=>?_)
           · refine af ?_;refine xo rfl (aF rfl (mC t ht)) ?_;rintro _ h3 ⟨rfl,e3⟩;refine af ?_;refine bh ?_;exact⟨_,rfl,by unfold cA;rw[if_neg c0,if_neg c1,if_neg c2,if_pos (.inr (.inr c8))];rfl,e3⟩
           · refine af ?_;refine aP (fun c4=>?_) (fun c4=>?_)
             · refine aR ?_;refine dW [(4,.bool (decide (t∈wF)))] rfl ?_ ?_
               · refine af ?_;refine b9 35 (fun g=>?_) (fun g=>?_)
                 · have g:t=[45]:=aI (m:=[45]) (of_decide_eq_true g);refine af ?_;exact aA rfl ⟨ai rfl (by rw[g];rfl),sb rfl⟩
                 · have g:¬t=[45]:=fun q=>of_decide_eq_false g (by rw[q];rfl)
                   refine af ?_;exact aA rfl ⟨ai rfl (by have e:decide (t∈wF)=decide (t=nM):=by { rw[decide_eq_decide];simp[wF,g] };rw[e];exact DM t nM),sb rfl⟩
               · refine bh ?_;exact⟨_,rfl,by unfold cA;rw[if_neg c0,if_neg c1,if_neg c2,if_neg (by omega),if_pos c4];rfl,Ext.refl _ _⟩
             · refine af ?_;refine aP (fun c5=>?_) (fun c5=>?_)
               · have hT:cA aS k t=decide (t∈dB):=by unfold cA;rw[if_neg c0,if_neg c1,if_neg c2,if_neg (by omega),if_neg c4,if_pos c5]
                 rw[hT];refine af ?_;refine xp rfl (au (H.dm _ _ _ _ _ _ _ _ _ _ _ _ _) rfl) ?_;refine xo rfl (cm) ?_;rintro _ h1 ⟨rfl,kb,e1,z1⟩;refine aH rfl (aK rfl rfl kb HF) ?_;rintro _ h2 ⟨rfl,kb2,x2,z2⟩;have kb2:aC h2 h.size 24 (dB.map wj):=kb2;have e02:aq h h2:=aq.only e1 x2 (Nat.le_refl _);refine af ?_;refine gJ (σ:=Nat) (fun i=>[(6,.int .i64 (i:Nat))]) (fun i g=>g=h2/\i<=13/\t∉dB.take i) (fun i=>13-i) (0) ⟨rfl,by omega,by simp⟩ rfl ?_;rintro i g ⟨rfl,hi,hin⟩ ih;refine af ?_;refine aP (fun hlt=>?_) (fun hlt=>?_)
                 · have hil:i<13:=by omega
                   obtain⟨w,hw⟩:∃w,dB[i]? =some w:=⟨_,List.getElem?_eq_getElem (show i<dB.length from hil)⟩
                   have hwm:(dB.map wj)[i]? =some (wj w):=by rw[List.getElem?_map,hw];rfl
                   iterate 4 refine aR ?_
                   refine de ?_;refine aZ ?_;refine xp rfl (xM rfl rfl i rfl hil) ?_;refine xp rfl (az rfl (by rw[Nat.mul_one,Nat.zero_add];exact kb2.cell hwm)) ?_;refine af ?_;refine aP (fun heq=>?_) (fun heq=>?_)
                   · have heq:w=t:=aI heq;refine af ?_;refine bh ?_;exact⟨_,rfl,by rw[decide_eq_true (by rw[<-heq];exact List.mem_of_getElem? hw)];rfl,e02⟩
                   · refine af ?_;exact ih (i+1) ⟨rfl,hil,fun q=>by rw[List.take_add_one,hw,List.mem_append] at q;exact q.elim hin (fun q=>by simp at q;exact heq (by rw[q]))⟩
                 · obtain rfl:i=13:=by omega
                   refine af ?_;refine bh ?_;have hin:t∉dB:=hin;exact⟨_,rfl,by rw[decide_eq_false hin];rfl,e02⟩
               · refine af ?_;refine bh ?_;exact⟨_,rfl,by unfold cA;rw[if_neg c0,if_neg c1,if_neg c2,if_neg (by omega),if_neg c4,if_neg c5];show Value.bool _=_;rw[<-kC],Ext.refl _ _⟩
def Ju (w:Int) (n:Nat):Bool:=decide ((0<=w/\(n:Int)≠w)\/(w= -1/\n≠1/\n≠2)\/(w= -2/\(n<1\/500<n)))
theorem K6 (k:Int) (n:Nat) (hk:0<=k/\k<=10):Ju (jt k) n= !bounds k n:=by
 obtain⟨m,rfl⟩:∃m:Nat,k=m:=⟨k.toNat,by omega⟩
 have hm:m<11:=by omega
 unfold Ju bounds;rw[<-decide_not,decide_eq_decide]
 match m,hm with
 | 0,_=>rw[show jt ((0:Nat):Int)=0 from rfl,show bY ((0:Nat):Int)=(0,0) from rfl];simp only;omega
 | 1,_=>rw[show jt ((1:Nat):Int)=0 from rfl,show bY ((1:Nat):Int)=(0,0) from rfl];simp only;omega
 | 2,_=>rw[show jt ((2:Nat):Int)=0 from rfl,show bY ((2:Nat):Int)=(0,0) from rfl];simp only;omega
 | 3,_=>rw[show jt ((3:Nat):Int)=0 from rfl,show bY ((3:Nat):Int)=(0,0) from rfl];simp only;omega
 | 4,_=>rw[show jt ((4:Nat):Int)=1 from rfl,show bY ((4:Nat):Int)=(1,1) from rfl];simp only;omega
 | 5,_=>rw[show jt ((5:Nat):Int)=2 from rfl,show bY ((5:Nat):Int)=(2,2) from rfl];simp only;omega
 | 6,_=>rw[show jt ((6:Nat):Int)=3 from rfl,show bY ((6:Nat):Int)=(3,3) from rfl];simp only;omega
 | 7,_=>rw[show jt ((7:Nat):Int)=(-1) from rfl,show bY ((7:Nat):Int)=(1,2) from rfl];simp only[true_and];omega
 | 8,_=>rw[show jt ((8:Nat):Int)=1 from rfl,show bY ((8:Nat):Int)=(1,1) from rfl];simp only;omega
 | 9,_=>rw[show jt ((9:Nat):Int)=2 from rfl,show bY ((9:Nat):Int)=(2,2) from rfl];simp only;omega
 | 10,_=>rw[show jt ((10:Nat):Int)=(-2) from rfl,show bY ((10:Nat):Int)=(1,500) from rfl];simp only[true_and];omega
def sx (k:Int) (x:Tr):Bool:=bQ aS x && (decide (k=10) ||alone x)
def qd (k:Int) (l:List Tr):Bool:=decide (k≠6) ||match l with| [_,b,c]=>decide (b.kind=10) && (decide (c.kind=10) ||decide (c.kind=6))|_=>false
theorem ry {k:Int}(h:k≠6):∀(l:List Tr) (i:Nat),fN aS k i l=l.all (sx k)
 | [],i=>by rw[fN];rfl
 |x::l,i=>by
  rw[rz,ux,ry h l (i+1),List.all_cons];have:sy k i x=true:=by unfold sy;rw[decide_eq_true h];rfl
  rw[this,Bool.and_true];rfl
theorem zW (k:Int) (t:By) (l:List Tr):bQ aS (.mk k t l)=(bounds k l.length && cA aS k t && (l.all (sx k) && qd k l)):=by
 rw[qB,tF]
 by_cases h:k=6
 · subst h;cases hb:bounds 6 l.length with
   |false=>rfl
   |true =>
    have hbd:(0<=(6:Int)/\(6:Int)<=10)/\(bY 6).1<=l.length/\l.length<=(bY 6).2:=of_decide_eq_true hb;have hbd2:3<=l.length/\l.length<=3:=hbd.2;obtain⟨a,b,c,rfl⟩:=Mo (show l.length=3 by omega)
    congr 1
    simp only[fN,ux,List.all_cons,List.all_nil,Bool.and_true];have i0:sy 6 0 a=true:=rfl;have i1:sy 6 1 b=decide (b.kind=10):=by unfold sy;simp
    have i2:sy 6 2 c=(decide (c.kind=10) ||decide (c.kind=6)):=by unfold sy;simp
    have ie:qd 6 [a,b,c]=(decide (b.kind=10) && (decide (c.kind=10) ||decide (c.kind=6))):=by unfold qd;simp
    rw[i0,i1,i2,ie];unfold sx;rw[Bool.eq_iff_iff];simp only[Bool.and_eq_true];constructor
    · intro q;simp only[q,and_self,and_true,true_and]
    · intro q;simp only[q,and_self,and_true,true_and]
 · rw[ry h];have:qd k l=true:=by unfold qd;rw[decide_eq_true h];rfl
   rw[this,Bool.and_true]
theorem BH (h:bQ aS x=true):alone x= !(decide (x.kind=7) && decide (x.kids.length=1)):=by
 cases x with
 |mk k t l =>
  unfold alone
  show (decide (k≠7) ||decide (l.length=2))= !(decide (k=7) && decide (l.length=1))
  by_cases h7:k=7
  · subst h7;rw[qB,tF,Bool.and_eq_true,Bool.and_eq_true] at h;have hbd:(0<=(7:Int)/\(7:Int)<=10)/\(bY 7).1<=l.length/\l.length<=(bY 7).2:=of_decide_eq_true h.1.1;have hbd2:1<=l.length/\l.length<=2:=hbd.2;rw[decide_eq_false (fun q=>q rfl),Bool.false_or,decide_eq_true (rfl:(7:Int)=7),Bool.true_and,<-decide_not,decide_eq_decide];omega
  · rw[decide_eq_true h7,decide_eq_false h7];rfl
theorem fj {p:Prop}[Decidable p] (h:p):true=decide p:=(decide_eq_true h).symm
theorem eW {p:Prop}[Decidable p] (h:¬p):false=decide p:=(decide_eq_false h).symm
def H7 (x:Tr):Prop:=∀(h:aj) (O:Nat->Prop) (v:Value),cL h O v x->av Tryz.prog 21 #[v] h (bq fun r h'=>r= .bool (bQ aS x)/\aq h h')
theorem IG (hw:(Tr.mk k t l).wt<=1000000) (hk:∀x∈l,H7 x):H7 (.mk k t l):=by
 intro h O v hv;obtain⟨w,rfl,hw0⟩:=id hv.open;obtain⟨a,n,c,rfl,hws⟩:=id hw0.open;have hn:l.length=n:=hws.len;subst hn;have hcap:=hws.cap;have hle:=hws.le;simp only[maxLen] at hcap;have htl:=Dg k t l;rw[zW];refine bP ?_;refine af ?_;refine xo rfl (iF) ?_;rintro _ h1 ⟨rfl,k1,e1,z1⟩;have k1:aC h1 h.size 38 (lY k t a l.length c):=k1;refine aZ ?_;refine cV ?_
 iterate 2 refine aR ?_
 refine J0 (fun(u:Unit) (h':aj)=>aq h1 h') (fun(u:Unit)=>[(22,.bool (!(decide (0<=k/\k<=10) && cA aS k t)))]) rfl ?_ ?_
 · refine af ?_;refine xp rfl (az rfl (k1.cell (i:=0) rfl)) ?_;refine af ?_;refine b9 10 (fun p=>?_) (fun p=>?_)
   · have p:=of_decide_eq_true p;refine af ?_;exact lg () (Ext.refl _ _) ⟨ai rfl (by rw[decide_eq_false (by omega)];rfl),sb rfl⟩
   · have p:=of_decide_eq_false p;refine af ?_;refine xp rfl (az rfl (k1.cell (i:=0) rfl)) ?_;refine af ?_;refine b9 15 (fun q=>?_) (fun q=>?_)
     · have q:=of_decide_eq_true q;refine af ?_;exact lg () (Ext.refl _ _) ⟨ai rfl (by rw[decide_eq_false (by omega)];rfl),sb rfl⟩
     · have q:=of_decide_eq_false q;refine af ?_;refine xp rfl (az rfl (k1.cell (i:=0) rfl)) ?_;refine af ?_;refine xp rfl (az rfl (k1.cell (i:=1) rfl)) ?_;refine xo rfl (aF rfl (Cd k t (by omega))) ?_;rintro _ h2 ⟨rfl,e2⟩;refine af ?_;exact lg () e2 ⟨ai rfl (by rw[decide_eq_true (by omega),Bool.true_and]),sb rfl⟩
 · rintro u h2 e2;have k2:=k1.ah e2;have e02:=e1.trans e2;refine fF (fun hb=>?_) (fun hb=>?_)
   · have hb:(decide (0<=k/\k<=10) && cA aS k t)=false:=by rw[Bool.not_eq_true'] at hb;exact hb
     refine af ?_;refine bh ?_;refine⟨_,rfl,?_,e02⟩
     have:(bounds k l.length && cA aS k t)=false:=by
      rw[Bool.and_eq_false_iff] at hb ⊢;refine hb.imp (fun q=>?_) id;unfold bounds;exact decide_eq_false (fun r=>of_decide_eq_false q r.1)
     rw[this];rfl
   · have hb:(decide (0<=k/\k<=10) && cA aS k t)=true:=by rw[Bool.not_eq_false'] at hb;exact hb
     rw[Bool.and_eq_true,decide_eq_true_iff] at hb;rw[hb.2,Bool.and_true];refine af ?_;refine Ij 8 8 ?_;refine aG 0 ?_;refine bC 1 rfl (fun h' e=>az rfl (e.old (k2.cell (i:=2) rfl))) ?_;refine aG 2 ?_;refine aG 3 ?_;refine bC 4 rfl (fun h' e=>az rfl (e.old (k2.cell (i:=0) rfl))) ?_;refine cU 5 rfl (aF rfl (Ay k hb.1)) ?_;rintro _ h2 ⟨rfl,rfl⟩;refine⟨fun _=>Ext.refl _ _,?_⟩;obtain⟨W,hW⟩:∃W,W=jt k:=⟨_,rfl⟩
     have hcnt:=K6 k l.length hb.1;rw[<-hW] at hcnt ⊢;refine aG 6 ?_;refine aG 7 ?_;refine gV ?_
     iterate 2 refine aR ?_
     refine dW [(59,.bool (Ju W l.length))] rfl ?_ ?_
     · unfold Ju;refine af ?_;refine b9 31 (fun q0=>?_) (fun q0=>?_)
       · have q0:=of_decide_eq_true q0;refine af ?_;refine b9 36 (fun q1=>?_) (fun q1=>?_)
         · have q1:¬(l.length:Int)=W:=by simpa using q1
           refine af ?_;exact aA rfl ⟨ai rfl (fj (by omega)),sb rfl⟩
         · have q1:(l.length:Int)=W:=by simpa using q1
           refine af ?_;refine b9 39 (fun p1=>?_) (fun p1=>?_)
           · have p1:=of_decide_eq_true p1;refine af ?_;refine b9 43 (fun p2=>?_) (fun p2=>?_)
             · have p2:¬(l.length:Int)=1:=by simpa using p2
               refine af ?_;refine b9 48 (fun p3=>?_) (fun p3=>?_)
               · have p3:¬(l.length:Int)=2:=by simpa using p3
                 refine af ?_;exact aA rfl ⟨ai rfl (fj (by omega)),sb rfl⟩
               · have p3:(l.length:Int)=2:=by simpa using p3
                 refine af ?_;refine b9 51 (fun p4=>?_) (fun p4=>?_)
                 · have p4:=of_decide_eq_true p4;refine af ?_;refine b9 54 (fun p5=>?_) (fun p5=>?_)
                   · have p5:=of_decide_eq_true p5;refine af ?_;exact aA rfl ⟨ai rfl (fj (by omega)),sb rfl⟩
                   · have p5:=of_decide_eq_false p5;refine af ?_;exact aA rfl ⟨ai rfl (by rw[decide_eq_decide];omega),sb rfl⟩
                 · have p4:=of_decide_eq_false p4
                   iterate 6 refine so ?_
                   iterate 2 refine aZ ?_
                   exact aA rfl ⟨ai rfl (eW (by omega)),sb rfl⟩
             · have p2:(l.length:Int)=1:=by simpa using p2
               iterate 2 refine so ?_
               iterate 6 refine aZ ?_
               refine dD (d:=51) rfl (fun p4=>?_) (fun p4=>?_)
               · have p4:=of_decide_eq_true p4;refine af ?_;refine b9 54 (fun p5=>?_) (fun p5=>?_)
                 · have p5:=of_decide_eq_true p5;refine af ?_;exact aA rfl ⟨ai rfl (fj (by omega)),sb rfl⟩
                 · have p5:=of_decide_eq_false p5;refine af ?_;exact aA rfl ⟨ai rfl (by rw[decide_eq_decide];omega),sb rfl⟩
               · have p4:=of_decide_eq_false p4
                 iterate 6 refine so ?_
                 iterate 2 refine aZ ?_
                 exact aA rfl ⟨ai rfl (eW (by omega)),sb rfl⟩
           · have p1:=of_decide_eq_false p1
             iterate 2 refine so ?_
             iterate 2 refine aZ ?_
             iterate 2 refine so ?_
             iterate 6 refine aZ ?_
             refine dD (d:=51) rfl (fun p4=>?_) (fun p4=>?_)
             · have p4:=of_decide_eq_true p4;refine af ?_;refine b9 54 (fun p5=>?_) (fun p5=>?_)
               · have p5:=of_decide_eq_true p5;refine af ?_;exact aA rfl ⟨ai rfl (fj (by omega)),sb rfl⟩
               · have p5:=of_decide_eq_false p5;refine af ?_;exact aA rfl ⟨ai rfl (by rw[decide_eq_decide];omega),sb rfl⟩
             · have p4:=of_decide_eq_false p4
               iterate 6 refine so ?_
               iterate 2 refine aZ ?_
               exact aA rfl ⟨ai rfl (eW (by omega)),sb rfl⟩
       · have q0:=of_decide_eq_false q0
         iterate 3 refine so ?_
         iterate 5 refine aZ ?_
         refine dD (d:=39) rfl (fun p1=>?_) (fun p1=>?_)
         · have p1:=of_decide_eq_true p1;refine af ?_;refine b9 43 (fun p2=>?_) (fun p2=>?_)
           · have p2:¬(l.length:Int)=1:=by simpa using p2
             refine af ?_;refine b9 48 (fun p3=>?_) (fun p3=>?_)
             · have p3:¬(l.length:Int)=2:=by simpa using p3
               refine af ?_;exact aA rfl ⟨ai rfl (fj (by omega)),sb rfl⟩
             · have p3:(l.length:Int)=2:=by simpa using p3
               refine af ?_;refine b9 51 (fun p4=>?_) (fun p4=>?_)
               · have p4:=of_decide_eq_true p4;refine af ?_;refine b9 54 (fun p5=>?_) (fun p5=>?_)
                 · have p5:=of_decide_eq_true p5;refine af ?_;exact aA rfl ⟨ai rfl (fj (by omega)),sb rfl⟩
                 · have p5:=of_decide_eq_false p5;refine af ?_;exact aA rfl ⟨ai rfl (by rw[decide_eq_decide];omega),sb rfl⟩
               · have p4:=of_decide_eq_false p4
                 iterate 6 refine so ?_
                 iterate 2 refine aZ ?_
                 exact aA rfl ⟨ai rfl (eW (by omega)),sb rfl⟩
           · have p2:(l.length:Int)=1:=by simpa using p2
             iterate 2 refine so ?_
             iterate 6 refine aZ ?_
             refine dD (d:=51) rfl (fun p4=>?_) (fun p4=>?_)
             · have p4:=of_decide_eq_true p4;refine af ?_;refine b9 54 (fun p5=>?_) (fun p5=>?_)
               · have p5:=of_decide_eq_true p5;refine af ?_;exact aA rfl ⟨ai rfl (fj (by omega)),sb rfl⟩
               · have p5:=of_decide_eq_false p5;refine af ?_;exact aA rfl ⟨ai rfl (by rw[decide_eq_decide];omega),sb rfl⟩
             · have p4:=of_decide_eq_false p4
               iterate 6 refine so ?_
               iterate 2 refine aZ ?_
               exact aA rfl ⟨ai rfl (eW (by omega)),sb rfl⟩
         · have p1:=of_decide_eq_false p1
           iterate 2 refine so ?_
           iterate 2 refine aZ ?_
           iterate 2 refine so ?_
           iterate 6 refine aZ ?_
           refine dD (d:=51) rfl (fun p4=>?_) (fun p4=>?_)
           · have p4:=of_decide_eq_true p4;refine af ?_;refine b9 54 (fun p5=>?_) (fun p5=>?_)
             · have p5:=of_decide_eq_true p5;refine af ?_;exact aA rfl ⟨ai rfl (fj (by omega)),sb rfl⟩
             · have p5:=of_decide_eq_false p5;refine af ?_;exact aA rfl ⟨ai rfl (by rw[decide_eq_decide];omega),sb rfl⟩
           · have p4:=of_decide_eq_false p4;refine af ?_;exact aA rfl ⟨ai rfl (eW (by omega)),sb rfl⟩
     · rw[hcnt];refine fF (fun hbd=>?_) (fun hbd=>?_)
       · have hbd:bounds k l.length=false:=by rw[Bool.not_eq_true'] at hbd;exact hbd
         refine af ?_;refine bh ?_;exact⟨_,rfl,by rw[hbd];rfl,e02⟩
       · have hbd:bounds k l.length=true:=by rw[Bool.not_eq_false'] at hbd;exact hbd
         rw[hbd,Bool.true_and];have hbd2:(0<=k/\k<=10)/\(bY k).1<=l.length/\l.length<=(bY k).2:=of_decide_eq_true hbd;refine af ?_;refine gJ (σ:=Nat) (fun i=>[(5,.int .i64 (i:Nat))]) (fun i g=>i<=l.length/\aq h2 g/\(l.drop i).all (sx k)=l.all (sx k)) (fun i=>l.length-i) (0) ⟨Nat.zero_le _,Ext.refl _ _,rfl⟩ rfl ?_;rintro i g ⟨hi,eg,hq⟩ ihL;have kg:=k2.ah eg;have e0g:=e02.trans eg;refine af ?_;refine aP (fun hlt=>?_) (fun hlt=>?_)
         · have hil:i<l.length:=by omega
           obtain⟨b,o,x,xk,xt,xa,xn,xc,ha,hx,hrow,hnx,hxk,_⟩:=oI (hws.mv (Mv.ah e0g)) hil;have hxm:x∈l:=List.mem_of_getElem? hx;rw[drop_cons hx,List.all_cons] at hq
           have hxn:xn=x.kids.length:=by
            cases x with|mk k' t' l'=>obtain⟨v',hv1,hs1⟩:=hnx.open;cases hv1;exact(hs1.open_slice.len).symm
           refine af ?_;refine xp rfl (az rfl (kg.cell (i:=2) rfl)) ?_;refine aZ ?_;refine xp rfl (cK rfl rfl i rfl ha) ?_;refine xp rfl (bV rfl hrow) ?_;refine xo rfl (cm) ?_;rintro _ g1 ⟨rfl,kn,e3,z3⟩;refine aH rfl (aK rfl rfl kn jH) ?_;rintro _ g2 ⟨rfl,kx,x2,z2⟩;have kx:aC g2 g.size 38 (lY xk xt xa xn xc):=kx;have eg2:aq g g2:=aq.only e3 x2 (Nat.le_refl _);have kg2:=kg.ah eg2;have hcall:=hk x hxm g2 O _ (hnx.mv (Mv.ah eg2));refine cV ?_;refine aR ?_;refine J0 (fun(u:Unit) (h':aj)=>aq g2 h') (fun(u:Unit)=>[(88,.bool (!sx k x))]) rfl ?_ ?_
           · refine xp rfl (bV rfl kx.row) ?_;refine xo rfl (aF rfl hcall) ?_;rintro _ g3 ⟨rfl,e4⟩;refine af ?_;refine b9 73 (fun q=>?_) (fun q=>?_)
             · have q:bQ aS x=false:=by simpa using q
               refine af ?_;exact lg () e4 ⟨ai rfl (by unfold sx;rw[q];rfl),sb rfl⟩
             · have q:bQ aS x=true:=by simpa using q
               have hkb:(!sx k x)=decide (xk=7/\xn=1/\k≠10):=by
                unfold sx;rw[q,Bool.true_and,BH q,hxk,hxn,Bool.eq_iff_iff];simp only[Bool.not_eq_true',Bool.or_eq_false_iff,Bool.not_eq_false',Bool.and_eq_true,decide_eq_true_eq,decide_eq_false_iff_not];constructor
                · intro ⟨r1,r2,r3⟩;exact⟨r2,r3,r1⟩
                · intro ⟨r1,r2,r3⟩;exact⟨r3,r1,r2⟩
               rw[hkb];refine af ?_;refine xp rfl (az rfl ((kx.ah e4).cell (i:=0) rfl)) ?_;refine af ?_;refine b9 77 (fun r1=>?_) (fun r1=>?_)
               · have r1:=of_decide_eq_true r1;refine af ?_;refine xp rfl (az rfl ((kx.ah e4).cell (i:=2) rfl)) ?_;refine af ?_;refine b9 83 (fun r2=>?_) (fun r2=>?_)
                 · have r2:=of_decide_eq_true r2;refine af ?_;refine xp rfl (az rfl ((kg2.ah e4).cell (i:=0) rfl)) ?_;refine af ?_;exact lg () e4 ⟨ai rfl (by rw[decide_eq_decide];omega),sb rfl⟩
                 · have r2:=of_decide_eq_false r2;refine af ?_;exact lg () e4 ⟨ai rfl (eW (by omega)),sb rfl⟩
               · have r1:=of_decide_eq_false r1;refine af ?_;exact lg () e4 ⟨ai rfl (eW (by omega)),sb rfl⟩
           · rintro u g3 e4;refine fF (fun hkx=>?_) (fun hkx=>?_)
             · have hkx:sx k x=false:=by rw[Bool.not_eq_true'] at hkx;exact hkx
               refine af ?_;refine bh ?_;exact⟨_,rfl,by rw[<-hq,hkx];rfl,(e0g.trans eg2).trans e4⟩
             · have hkx:sx k x=true:=by rw[Bool.not_eq_false'] at hkx;exact hkx
               rw[hkx,Bool.true_and] at hq;refine af ?_;exact ihL (i+1) ⟨hil,(eg.trans eg2).trans e4,hq⟩
         · obtain rfl:i=l.length:=by omega
           rw[List.drop_length] at hq;rw[<-hq,show ([]:List Tr).all (sx k)=true from rfl,Bool.true_and]
           iterate 2 refine aR ?_
           refine dW [(2,.bool (qd k l))] rfl ?_ ?_
           · refine af ?_;refine xp rfl (az rfl (kg.cell (i:=0) rfl)) ?_;refine af ?_;refine b9 92 (fun c6=>?_) (fun c6=>?_)
             · have c6:¬k=6:=by simpa using c6
               refine af ?_;exact aA rfl ⟨ai rfl (by unfold qd;rw[decide_eq_true (show k≠6 from c6)];rfl),sb rfl⟩
             · have c6:k=6:=by simpa using c6
               subst c6;have hb3:3<=l.length/\l.length<=3:=hbd2.2;obtain⟨x0,x1,x2,rfl⟩:=Mo (show l.length=3 by omega);obtain⟨b1,o1,y1,k1',t1',a1',n1',c1',ha1,hx1,hr1,_,hk1,_⟩:=oI (hws.mv (Mv.ah e0g)) (show 1 < [x0,x1,x2].length by simp);obtain⟨b2,o2,y2,k2',t2',a2',n2',c2',ha2,hx2,hr2,_,hk2,_⟩:=oI (hws.mv (Mv.ah e0g)) (show 2 < [x0,x1,x2].length by simp);obtain rfl:x1=y1:=by simpa using hx1
               obtain rfl:x2=y2:=by simpa using hx2
               have hie:qd 6 [x0,x1,x2]=(decide (k1'=10) && (decide (k2'=10) ||decide (k2'=6))):=by rw[hk1,hk2];unfold qd;simp
               rw[hie];refine af ?_;refine xp rfl (az rfl (kg.cell (i:=2) rfl)) ?_;refine xp rfl (cK rfl rfl 1 rfl ha1 (by simp)) ?_;refine af ?_;refine xp rfl (az rfl (hr1 0 _ rfl)) ?_;refine af ?_;refine b9 99 (fun d1=>?_) (fun d1=>?_)
               · refine af ?_;refine xp rfl (az rfl (kg.cell (i:=2) rfl)) ?_;refine xp rfl (cK rfl rfl 2 rfl ha2 (by simp)) ?_;refine af ?_;refine xp rfl (az rfl (hr2 0 _ rfl)) ?_;refine af ?_;refine b9 106 (fun d2=>?_) (fun d2=>?_)
                 · refine af ?_;exact aA rfl ⟨ai rfl (by rw[d1,d2];rfl),sb rfl⟩
                 · refine af ?_;refine xp rfl (az rfl (kg.cell (i:=2) rfl)) ?_;refine xp rfl (cK rfl rfl 2 rfl ha2 (by simp)) ?_;refine af ?_;refine xp rfl (az rfl (hr2 0 _ rfl)) ?_;refine af ?_;exact aA rfl ⟨ai rfl (by rw[d1,d2];rfl),sb rfl⟩
               · refine af ?_;exact aA rfl ⟨ai rfl (by rw[d1];rfl),sb rfl⟩
           · refine bh ?_;exact⟨_,rfl,rfl,e0g⟩
theorem Gi:∀(d:Nat) (x:Tr),x.dep<=d->x.wt<=1000000->H7 x:=by
 intro d
 induction d with
 |zero=>intro x hx;cases x with|mk k t l=>simp[Tr.dep] at hx
 |succ d ih =>
 intro x hd hw;cases x with
 |mk k t l=>exact IG hw fun y hy=>ih y (by have:=sW (k:=k) (t:=t) hy;omega) (by have:=B5 (k:=k) (t:=t) hy;omega)
theorem yo (hw:x.wt<=1000000) (hv:cL h O v x):av Tryz.prog 21 #[v] h (bq fun r h'=>r= .bool (bQ aS x)/\aq h h'):=Gi _ x (Nat.le_refl _) hw h O v hv
abbrev Gy (op:By):Tr:=.mk 5 op [.mk 3 [97] [],.mk 3 [98] []]
abbrev Cs (ka na:Int) (sa:By) (kb nb:Int) (sb:By):List Bd:=[([97],fl ka na sa),([98],fl kb nb sb)]
theorem Eo (k:aC h rb 73 [.int .i64 0,.int .i64 0]){ka na kb nb:Int}{sa sb op:By}
 (hv:aY eB h (fun b=>b=rb) ev (Cs ka na sa kb nb sb)) (hn:cL h (fun b=>b=rb) nv (Gy op)) (ho:op∈dB) (hna:gx na) (hnb:gx nb) (hsa:sa.length<=600) (hsb:sb.length<=600) :
 av Tryz.prog 22 #[.pointer (some ⟨rb,0,none⟩),ev,nv] h (bq fun r h'=>∃x y t e s',lu op (fl ka na sa) (fl kb nb sb)=(fl x y t,e)/\vN r x y t []/\aC h' rb 73 [.int .i64 s',.int .i64 e]/\Ext (fun b=>b=rb) h h'):=by
 obtain⟨ia,in',ic,rfl,hR,hks⟩:=iB hn;obtain⟨ea,en,ec,rfl,hos⟩:=id hv.open;have hrl:=k.lt;refine bP ?_;refine af ?_;refine xo rfl (iF) ?_;rintro _ h1 ⟨rfl,k5,e1,z1⟩;refine xo rfl (cm) ?_;rintro _ h2 ⟨rfl,k6,e2,z2⟩;have e12:=e1.trans e2;have z12:=e1.size;have k5:aC h2 h.size 38 [.int .i64 5,.string (bs op),.slice ia in' ic]:=k5.ah e2;have k2:=k.ah e12;refine af ?_;refine xp rfl (az rfl (k2.cell (i:=1) rfl)) ?_;refine af ?_;refine eC rfl (by simp) ?_;refine af ?_;refine xp rfl (az rfl (k2.cell (i:=0) rfl)) ?_;refine af ?_;refine eC rfl (by simp) ?_;refine af ?_;refine xp rfl (az rfl (k2.cell (i:=0) rfl)) ?_;refine af ?_;refine aH rfl (kY rfl rfl k2) ?_;rintro _ h3 ⟨rfl,k3,x3,z3⟩;have k3:aC h3 rb 73 [.int .i64 ((1:Nat):Int),.int .i64 0]:=k3;have E:Ext (fun b=>b=rb) h h3:=(e12.mono fun _ _ q=>q.elim).trans x3;have k53:=k5.ext x3 (by omega);have k63:=k6.ext x3 (by omega);have m3:Mv (fun b=>b=rb) (fun b=>b=rb) h h3:=Mv.cg E fun b _ q=>⟨q,q⟩
 refine af ?_;refine xp rfl (az rfl (k53.cell (i:=0) rfl)) ?_;refine af ?_;refine eC rfl (by simp) ?_;refine af ?_;refine eC rfl (by simp) ?_;refine af ?_;refine eC rfl (by simp) ?_;refine af ?_;refine eC rfl (by simp) ?_;refine af ?_;refine eC rfl (by simp) ?_;refine af ?_;refine eu rfl (by simp) ?_;refine af ?_;refine xp rfl (bV rfl k53.row) ?_;refine xo rfl (aF rfl (II k3 (by decide) (hv.mv m3) (cL.mv (cL.of hR) m3) ho hna hnb hsa hsb)) ?_;rintro v4 h4 ⟨x,y,t,e,s',hx,fx,k4,x4⟩;obtain⟨nk,nt,pa,ma,ca,qa,wa,da,rfl⟩:=fx.agg;have z34:=x4.size;refine aH rfl (aK rfl rfl ((k63.ext x4 (by omega))) dX) ?_;rintro _ h5 ⟨rfl,kg,xg,zg⟩;refine af ?_;refine bF (br rfl kg.row bE) ?_;exact⟨_,rfl,_,_,_,_,_,hx,fx,k4.ext xg (by omega),(E.trans x4).aW xg (fun b hb q=>by omega)⟩
def Bh (o:Vl×Int):Vl×Int:=if o.2=0 then o else (gp,o.2)
theorem Et {ka na kb nb:Int}{sa sb op:By}
 (hv:aY eB h (fun _=>False) ev (Cs ka na sa kb nb sb)) (hn:cL h (fun _=>False) nv (Gy op)) (ho:op∈dB) (hna:gx na) (hnb:gx nb) (hsa:sa.length<=600) (hsb:sb.length<=600) :
 av Tryz.prog 7 #[ev,nv] h (bq fun r h'=>∃v st x y t e,r=packed [v,.int .i64 st,.int .i64 e]/\Bh (lu op (fl ka na sa) (fl kb nb sb))=(fl x y t,e)/\vN v x y t []/\aq h h'):=by
 obtain⟨ia,in',ic,rfl,hR,hks⟩:=iB hn
 have hval:bQ aS (Gy op)=true:=by
  unfold dB at ho;simp only[List.mem_cons,List.not_mem_nil,or_false] at ho
  rcases ho with rfl|rfl|rfl|rfl|rfl|rfl|rfl|rfl|rfl|rfl|rfl|rfl|rfl<;>decide +kernel
 have hwt:(Gy op).wt<=1000000:=by
  unfold dB at ho;simp only[List.mem_cons,List.not_mem_nil,or_false] at ho
  rcases ho with rfl|rfl|rfl|rfl|rfl|rfl|rfl|rfl|rfl|rfl|rfl|rfl|rfl<;>decide +kernel
 refine bP ?_;refine af ?_;refine xo rfl (iF) ?_;rintro _ h1 ⟨rfl,k3,e1,z1⟩;refine xo rfl (cm) ?_;rintro _ h2 ⟨rfl,k4,e2,z2⟩;have e12:=e1.trans e2;have k3:aC h2 h.size 38 [.int .i64 5,.string (bs op),.slice ia in' ic]:=k3.ah e2;refine af ?_;refine xp rfl (bV rfl k3.row) ?_;refine xo rfl (aF rfl (yo hwt (hn.mv (Mv.ah e12)))) ?_;rintro _ h3 ⟨rfl,e3⟩;have e13:=e12.trans e3;have k33:=k3.ah e3;have k43:=k4.ah e3;have zz:=And.intro e1.size (And.intro e12.size e3.size);rw[hval];refine af ?_;refine eC rfl (by simp) ?_;refine af ?_;refine xp rfl (au (H.MO ) rfl) ?_;refine xo rfl (iF) ?_;rintro _ h4 ⟨rfl,k7,e4,z4⟩;have k7:aC h4 h3.size 73 [.int .i64 0,.int .i64 0]:=k7;have e14:=e13.trans e4;have m4:Mv (fun _=>False) (fun b=>b=h3.size) h h4:=Mv.cg e14 fun b hb _=>⟨fun q=>q,fun q=>by omega⟩
 refine af ?_;refine xp rfl (bV rfl (k33.ah e4).row) ?_;refine xo rfl (aF rfl (Eo k7 (hv.mv m4) (hn.mv m4) ho hna hnb hsa hsb)) ?_;rintro v5 h5 ⟨x,y,t,e,s',hx,fx,k5,x5⟩;obtain⟨nk,nt,pa,ma,ca,qa,wa,da,rfl⟩:=fx.agg;have z45:=x5.size;have z34:=e4.size;have k45:=(k43.ah e4).ext x5 (by omega);refine xo rfl (cm) ?_;rintro _ h6 ⟨rfl,k8,e6,z6⟩;refine aH rfl (aK rfl rfl k8 dX) ?_;rintro _ h7 ⟨rfl,k87,x7,z7⟩;have k87:aC h7 h5.size 41 (iG x y t [] nk nt pa ma ca qa wa da):=k87;have e57:aq h5 h7:=aq.only e6 x7 (Nat.le_refl _);have k57:=k5.ah e57;have k47:=k45.ah e57;have E7:aq h h7:=⟨by have:=e57.size;omega,fun b hb _=>((e57.block b (by omega) (fun k=>k)).trans (x5.block b (by omega) (by omega))).trans (e14.block b hb (fun k=>k))⟩
 have hfin:=congrArg Bh hx;have z57:=e57.size;have l57:=k57.lt;have l87:=k87.lt;refine af ?_;refine xp rfl (az rfl (k57.cell (i:=1) rfl)) ?_;refine af ?_;refine aP (fun he=>?_) (fun he=>?_)
 · refine af ?_;refine kH 12 (fun b=>b=h1.size\/h7.size<=b) (fun i=>Nat.blt i 12) ?_;refine bC 0 rfl (fun h' e=>au (H.Kn ) rfl) ?_;refine aG 1 ?_;refine aG 2 ?_;refine aG 3 ?_;refine bC 4 rfl (fun h' e=>az rfl (e.cell (by dsimp only;omega) (k57.cell (i:=0) rfl))) ?_;refine aG 5 ?_;refine aG 6 ?_;refine aG 7 ?_;refine bC 8 rfl (fun h' e=>az rfl (e.cell (by dsimp only;omega) (k57.cell (i:=1) rfl))) ?_;refine iA 9 rfl (aK rfl rfl k47) ?_;rintro _ h8 ⟨rfl,kg,xg,zg⟩;refine⟨fun _=>xg.mono (fun b _ q=>.inl q),?_⟩;refine aG 10 ?_;refine aG 11 ?_;refine gV ?_;refine bF (br rfl kg.row (dM (dM bE))) ?_;exact⟨_,rfl,_,_,_,_,_,_,rfl,hfin.trans (if_neg he),gH _ _ _,aq.only E7 xg (by omega)⟩
 · have he:=Classical.not_not.1 he;subst he;refine af ?_;refine kH 8 (fun b=>b=h1.size\/h7.size<=b) (fun i=>Nat.blt i 8) ?_;refine bC 0 rfl (fun h' e=>bV rfl (e.rowAt (by omega) k87.row)) ?_;refine aG 1 ?_;refine aG 2 ?_;refine aG 3 ?_;refine bC 4 rfl (fun h' e=>az rfl (e.cell (by dsimp only;omega) (k57.cell (i:=0) rfl))) ?_;refine iA 5 rfl (aK rfl rfl k47 dX) ?_;rintro _ h8 ⟨rfl,kg,xg,zg⟩;refine⟨fun _=>xg.mono (fun b _ q=>.inl q),?_⟩;refine aG 6 ?_;refine aG 7 ?_;refine gV ?_;refine bF (br rfl kg.row (dM (dM bE))) ?_;exact⟨_,rfl,_,_,_,_,_,_,rfl,hfin.trans (if_pos rfl),fx,aq.only E7 xg (by omega)⟩
theorem Gh {l':List Tr}(h:l.length≠l'.length):lT l l'=false:=by
 rw[Bool.eq_false_iff];intro q;rw[qG] at q;rw[q] at h;exact h rfl
def Nf (x:Tr):Prop:=∀(y:Tr) (h:aj) (O O':Nat->Prop) (v v':Value),cL h O v x->cL h O' v' y->av Tryz.prog 24 #[v,v'] h (bq fun r h'=>r= .bool (rD x y)/\aq h h')
theorem Ek:∀(d:Nat) (x:Tr),x.dep<=d->Nf x:=by
 intro d
 induction d with
 |zero=>intro x hx;cases x with|mk k t l=>simp[Tr.dep] at hx
 |succ d ihd =>
 intro x hd y h O O' v v' hv hv';cases x with
 |mk k t l =>
 cases y with
 |mk k' t' l' =>
  obtain⟨w,rfl,hw⟩:=id hv.open;obtain⟨a,n,c,rfl,hws⟩:=id hw.open;obtain⟨w',rfl,hw'⟩:=id hv'.open;obtain⟨a',n',c',rfl,hws'⟩:=id hw'.open;have hn:l.length=n:=hws.len;have hn':l'.length=n':=hws'.len;subst hn hn';have hcap:=hws.cap;have hle:=hws.le;simp only[maxLen] at hcap;rw[rD];refine bP ?_;refine af ?_;refine xo rfl (iF) ?_;rintro _ h1 ⟨rfl,k1,e1,z1⟩;refine xo rfl (iF) ?_;rintro _ h2 ⟨rfl,k2,e2,z2⟩;have k1:aC h2 h.size 38 (lY k t a l.length c):=k1.ah e2;have k2:aC h2 h1.size 38 (lY k' t' a' l'.length c'):=k2;have e02:=e1.trans e2;refine aZ ?_;refine cV ?_
  iterate 2 refine aR ?_
  refine dW [(26,.bool (!(decide (k=k') && (decide (t=t') && decide (l.length=l'.length)))))] rfl ?_ ?_
  · refine af ?_;refine xp rfl (az rfl (k1.cell (i:=0) rfl)) ?_;refine af ?_;refine xp rfl (az rfl (k2.cell (i:=0) rfl)) ?_;refine af ?_;refine b9 11 (fun p=>?_) (fun p=>?_)
    · have p:¬k=k':=by simpa using p
      refine af ?_;exact aA rfl ⟨ai rfl (by rw[decide_eq_false p];rfl),sb rfl⟩
    · have p:k=k':=by simpa using p
      refine af ?_;refine xp rfl (az rfl (k1.cell (i:=1) rfl)) ?_;refine af ?_;refine xp rfl (az rfl (k2.cell (i:=1) rfl)) ?_;refine af ?_;refine b9 18 (fun q=>?_) (fun q=>?_)
      · have q:¬t=t':=fun r=>by simp[r] at q
        refine af ?_;exact aA rfl ⟨ai rfl (by rw[decide_eq_false q,decide_eq_true p];rfl),sb rfl⟩
      · have q:t=t':=aI (by simpa using q);refine af ?_;refine xp rfl (az rfl (k1.cell (i:=2) rfl)) ?_;refine af ?_;refine xp rfl (az rfl (k2.cell (i:=2) rfl)) ?_;refine af ?_;exact aA rfl ⟨ai rfl (by rw[decide_eq_true p,decide_eq_true q,Bool.true_and,Bool.true_and,<-decide_not,decide_eq_decide];omega),sb rfl⟩
  · refine fF (fun hb=>?_) (fun hb=>?_)
    · have hb:(decide (k=k') && (decide (t=t') && decide (l.length=l'.length)))=false:=by rw[Bool.not_eq_true'] at hb;exact hb
      refine af ?_;refine bh ?_;refine⟨_,rfl,?_,e02⟩
      have:(decide (k=k') && (decide (t=t') && lT l l'))=false:=by
       rw[Bool.and_eq_false_iff,Bool.and_eq_false_iff] at hb ⊢;exact hb.imp id (fun q=>q.imp id (fun q=>Gh (of_decide_eq_false q)))
      rw[this];rfl
    · have hb:(decide (k=k') && (decide (t=t') && decide (l.length=l'.length)))=true:=by rw[Bool.not_eq_false'] at hb;exact hb
      rw[Bool.and_eq_true,Bool.and_eq_true] at hb;rw[hb.1,hb.2.1,Bool.true_and,Bool.true_and];have hll:l.length=l'.length:=of_decide_eq_true hb.2.2;refine af ?_;refine gJ (σ:=Nat) (fun i=>[(5,.int .i64 (i:Nat))]) (fun i g=>i<=l.length/\aq h2 g/\lT (l.drop i) (l'.drop i)=lT l l') (fun i=>l.length-i) (0) ⟨Nat.zero_le _,Ext.refl _ _,rfl⟩ rfl ?_;rintro i g ⟨hi,eg,hq⟩ ih;have kg1:=k1.ah eg;have kg2:=k2.ah eg;have e0g:=e02.trans eg;refine af ?_;refine xp rfl (az rfl (kg1.cell (i:=2) rfl)) ?_;refine af ?_;refine aP (fun hlt=>?_) (fun hlt=>?_)
      · have hil:i<l.length:=by omega
        obtain⟨b,o,x,xk,xt,xa,xn,xc,ha,hx,hrow,hnx,_,_⟩:=oI (hws.mv (Mv.ah e0g)) hil;obtain⟨b',o',y,yk,yt,ya,yn,yc,ha',hy,hrow',hny,_,_⟩:=oI (hws'.mv (Mv.ah e0g)) (show i<l'.length by omega);rw[drop_cons hx,drop_cons hy,lT] at hq;have hcall:=ihd x (by have:=sW (k:=k) (t:=t) (List.mem_of_getElem? hx);omega) y g O O' _ _ hnx hny;refine af ?_;refine Ij 12 12 ?_;refine aG 0 ?_;refine bC 1 rfl (fun h' e=>az rfl (e.old (kg1.cell (i:=2) rfl))) ?_;refine aG 2 ?_;refine bC 3 rfl (fun h' e=>cK rfl rfl i rfl ha) ?_;refine bC 4 rfl (fun h' e=>bV rfl (e.lC hrow)) ?_;refine aG 5 ?_;refine bC 6 rfl (fun h' e=>az rfl (e.old (kg2.cell (i:=2) rfl))) ?_;refine aG 7 ?_;refine bC 8 rfl (fun h' e=>cK rfl rfl i rfl ha') ?_;refine bC 9 rfl (fun h' e=>bV rfl (e.lC hrow')) ?_;refine cU 10 rfl (aF rfl hcall) ?_;rintro _ g5 ⟨rfl,e5⟩;refine⟨fun _=>e5.of,?_⟩;refine aG 11 ?_;refine gV ?_;refine fF (fun hb=>?_) (fun hb=>?_)
        · have hb:rD x y=false:=by simpa using hb
          refine af ?_;refine bh ?_;exact⟨_,rfl,by rw[<-hq,hb];rfl,e0g.trans e5⟩
        · have hb:rD x y=true:=by simpa using hb
          rw[hb,Bool.true_and] at hq;refine af ?_;exact ih (i+1) ⟨hil,eg.trans e5,hq⟩
      · obtain rfl:i=l.length:=by omega
        rw[List.drop_length,hll,List.drop_length] at hq;refine af ?_;refine bh ?_;exact⟨_,rfl,by rw[<-hq];rfl,e0g⟩
theorem Au {y:Tr}{O':Nat->Prop}{v':Value}(hv:cL h O v x) (hv':cL h O' v' y):av Tryz.prog 24 #[v,v'] h (bq fun r h'=>r= .bool (rD x y)/\aq h h'):=Ek _ x (Nat.le_refl _) y h O O' v v' hv hv'
theorem vN.Ld {f:By}(q:vN v k n s f):∃a c ea ec,v= .agg #[.int .i64 k,.int .i64 n,.string (bs s),.string (bs f),.int .i64 0,.string (bs []),.slice a 0 c,.slice ea 0 ec]/\(∀(h:aj) (O:Nat->Prop),cL h O (.agg #[.int .i64 0,.string (bs []),.slice a 0 c]) cj)/\(∀(h:aj) (O:Nat->Prop),aY eB h O (.slice ea 0 ec) []):=by
 obtain⟨nk,nt,a,m,c,ea,en,ec,hv,hb,_,he⟩:=(q #[] (fun _=>False)).get;obtain⟨w,hw,hl⟩:=iR (show eN.R #[] (fun _=>False) _ (.mk 0 [] []) from hb);simp only[List.cons.injEq,and_true] at hw;obtain⟨h1,h2,h3⟩:=hw
 have e1:∀{α:Type}{e:gD α}{a:Option Addr}{m c:Nat},aY e #[] (fun _=>False) (.slice a m c) []->m=0/\∀(h:aj) (O:Nat->Prop),aY e h O (.slice a m c) []:=fun {α e a m c} q=>by
  obtain⟨oa,n,c',hv,hl,h1,h2,_⟩:=q;cases hv;exact⟨hl.symm,fun h O=>⟨_,_,_,rfl,hl,h1,h2,fun i y hy=>by cases hy⟩⟩
 subst h3;obtain⟨rfl,g1⟩:=e1 hl;obtain⟨rfl,g2⟩:=e1 he;rw[h1,h2] at hv;exact⟨a,c,ea,ec,hv,fun h O=>cL.of (jU (g1 h O)),g2⟩
theorem Ic {nk nt:Value}(q:eN.R h O [nk,nt,nv] cj) (he:aY eB h O v []):vN (.agg #[.int .i64 k,.int .i64 n,.string (bs s),.string (bs []),nk,nt,nv,v]) k n s [] :=
 qe (cG.of (qg q he))
theorem vN.cells {f:By}{nk:Int}{nt:By}{ea:Option Addr}{en ec:Nat}(q:vN (.agg #[.int .i64 k,.int .i64 n,.string (bs s),.string (bs f),.int .i64 nk,.string (bs nt),.slice a m c,.slice ea en ec]) k n s f) (h:aj) (O:Nat->Prop):eV.R h O (iG k n s f nk nt a m c ea en ec) (.mk k n s f cj []):=by
 obtain⟨cs,hcs,hR⟩:=q h O
 have hcs:cs=iG k n s f nk nt a m c ea en ec:=by
  have:=congrArg (fun v=>match v with|Value.agg c=>c.toList|_=>[]) hcs;simpa using this.symm
 rwa [hcs] at hR
theorem CY (d:Int):av Tryz.prog 8 #[.slice a 0 c,.int .i64 d] h (bq fun r h'=>r= .slice none 0 0/\h'=h):=by
 refine bP ?_;refine af ?_;refine gJ (σ:=Unit) (fun i=>[(5,.slice none 0 0),(6,.int .i64 0)]) (fun i h'=>h'=h) (fun i=>0) (()) rfl rfl ?_;rintro i g rfl ih;refine af ?_;refine eC rfl (by simp) ?_;refine af ?_;refine bh ?_;exact⟨_,rfl,rfl,rfl⟩
theorem B8 (fv:vN v k n s []) :
 av Tryz.prog 23 #[v,.int .i64 1] h (bq fun r h'=>vN r k n s []/\aq h h'):=by
 obtain⟨a,c,ea,ec,rfl,hnd,hen⟩:=fv.Ld;refine bP ?_;refine af ?_;refine xo rfl (iF) ?_;rintro _ h1 ⟨rfl,k2,e1,z1⟩;refine xo rfl (cm) ?_;rintro _ h2 ⟨rfl,k4,e2,z2⟩;have k2:aC h2 h.size 30 (iG k n s [] 0 [] a 0 c ea 0 ec):=k2.ah e2;have hrn:Lw.rowAt h2 h.size 4 [.int .i64 0,.string (bs []),.slice a 0 c]:=nK (a:=[_,_,_,_]) (m:=[_,_,_]) (c:=[_]) k2;have zz:=And.intro e1.size e2.size;refine cV ?_;refine aR ?_;refine LF 14 (fun b=>Array.size h2<=b) (fun i=>Nat.blt i 13) (fun(x:Nat×Int×By×Option Addr×Nat×Nat) (h':aj)=>(aq h2 h'/\h2.size<=x.1/\aC h' x.1 41 [.int .i64 k,.int .i64 n,.string (bs s),.string (bs []),.int .i64 x.2.1,.string (bs x.2.2.1),.slice x.2.2.2.1 x.2.2.2.2.1 x.2.2.2.2.2,.slice none 0 0]/\cL h' (fun _=>False) (.agg #[.int .i64 x.2.1,.string (bs x.2.2.1),.slice x.2.2.2.1 x.2.2.2.2.1 x.2.2.2.2.2]) cj)) (fun(x:Nat×Int×By×Option Addr×Nat×Nat)=>[(5,ptr x.1)]) rfl ?_ ?_
 · refine aG 0 ?_;refine bC 1 rfl (fun h' e=>az rfl (e.old (k2.cell (i:=0) rfl))) ?_;refine aG 2 ?_;refine bC 3 rfl (fun h' e=>az rfl (e.old (k2.cell (i:=1) rfl))) ?_;refine aG 4 ?_;refine bC 5 rfl (fun h' e=>az rfl (e.old (k2.cell (i:=2) rfl))) ?_;refine aG 6 ?_;refine bC 7 rfl (fun h' e=>az rfl (e.old (k2.cell (i:=3) rfl))) ?_;refine aG 8 ?_;refine bC 9 rfl (fun h' e=>bV rfl (e.lC hrn)) ?_;refine Ls 10 12 rfl rfl (aF rfl (nH (by decide) (hnd h2 (fun _=>False)))) (cm) ?_ ?_
   · rintro dv g1 ⟨f1,hd⟩;refine⟨fun _=>f1.of,?_⟩;obtain⟨xk,xt,xa,xn,xc,rfl,rx⟩:=hd.get;refine bC 11 rfl (fun h' e=>au (H.mZ _ _ _ _ _ _ _) rfl) ?_;refine cU 12 rfl (cm) ?_;rintro _ g2 ⟨rfl,kn,f2,y2⟩;refine⟨fun _=>f2.of,?_⟩;refine iA 13 rfl (aK rfl rfl kn dX) ?_;rintro _ g3 ⟨rfl,kg,xg,zg⟩;refine⟨nofun,?_⟩;have f23:aq g1 g3:=aq.only f2 xg (Nat.le_refl _);exact DW (g1.size,xk,xt,xa,xn,xc) ⟨f1.trans f23,f1.size,kg,(cL.of (O:=fun _=>False) (eN.mv rx (Mv.cg f23 fun b _ _=>⟨fun q=>q,fun q=>q⟩)))⟩
   · rintro _ g1 ⟨rfl,kn,f1,y1⟩;refine⟨fun _=>f1.of,?_⟩;have f1:aq h2 g1:=f1;refine cU 10 rfl (aF rfl (nH (by decide) (hnd g1 (fun _=>False)))) ?_;rintro dv g2 ⟨f2,hd⟩;refine⟨fun _=>f2.of,?_⟩;obtain⟨xk,xt,xa,xn,xc,rfl,rx⟩:=hd.get;refine bC 11 rfl (fun h' e=>au (H.mZ _ _ _ _ _ _ _) rfl) ?_;refine iA 13 rfl (aK rfl rfl ((kn.ah f2)) dX) ?_;rintro _ g3 ⟨rfl,kg,xg,zg⟩;refine⟨nofun,?_⟩;have lk:=kn.lt;exact DW (h2.size,xk,xt,xa,xn,xc) ⟨aq.only (f1.trans f2) xg (Nat.le_refl _),Nat.le_refl _,kg,(cL.of (O:=fun _=>False) (eN.mv rx (Mv.cg xg fun b _ q=>⟨fun k=>q (by have:=f1.size;have:b=h2.size:=k;omega),fun q=>q⟩)))⟩
 · rintro⟨x,xk,xt,xa,xn,xc⟩ h3 ⟨e3,hx,k5,hd⟩;dsimp only at hx k5 hd;have k23:=k2.ah e3;have k43:=k4.ah e3;obtain⟨cs,hcs,hdR⟩:=hd
   have hcs:cs=[.int .i64 xk,.string (bs xt),.slice xa xn xc]:=by
    have:=congrArg (fun v=>match v with|Value.agg c=>c.toList|_=>[]) hcs;simpa using this.symm
   subst hcs;refine af ?_;refine eu rfl (by simp) ?_;refine af ?_;refine xp rfl (az rfl (k23.cell (i:=7) rfl)) ?_;refine af ?_;refine xo rfl (aF rfl ((CY _))) ?_;rintro _ _ ⟨rfl,rfl⟩;refine af ?_;refine aH rfl (kY rfl rfl k5) ?_;rintro _ h4 ⟨rfl,k6,x4,z4⟩;have k6:aC h4 x 41 [.int .i64 k,.int .i64 n,.string (bs s),.string (bs []),.int .i64 xk,.string (bs xt),.slice xa xn xc,.slice none 0 0]:=k6;have z34:=x4.size;have z23:=e3.size;have k44:=k43.ext x4 (by omega);refine af ?_;refine xp rfl (bV rfl k6.row) ?_;refine aH rfl (aK rfl rfl k44 dX) ?_;rintro _ h5 ⟨rfl,kg,xg,zg⟩;refine af ?_;refine bF (br rfl kg.row bE) ?_;exact⟨_,rfl,Ic (O:=fun _=>False) hdR (aY.nil _ _ _),aq.only (aq.only ((e1.trans e2).trans e3) x4 (by omega)) xg (by omega)⟩
theorem BA {xs:List Bd}(hv:aY eB h (fun _=>False) v xs) (hx:xs.length<=1000) (hf:∀y∈xs,∃k n s,y.2=fl k n s) :
 av Tryz.prog 8 #[v,.int .i64 1] h (bq fun r h'=>aY eB h' (fun _=>False) r xs/\aq h h'):=by
 obtain⟨pa,pn,pc,rfl,hps⟩:=id hv.open;have hpl:xs.length=pn:=hps.len;subst hpl;have hpc:=hps.le;refine bP ?_;refine af ?_;refine gJ (σ:=Nat×Value) (fun w=>[(5,w.2),(6,.int .i64 (w.1:Nat))]) (fun w g=>w.1<=xs.length/\aq h g/\cy eB (fun _=>False) g h.size 77 w.2 (xs.take w.1)) (fun w=>xs.length-w.1) ((0,.slice none 0 0)) ⟨Nat.zero_le _,Ext.refl _ _,cy.nil _ _ _ _ _⟩ rfl ?_;rintro⟨i,ov⟩ g ⟨hi,eg,hov⟩ ih
 try dsimp only
 dsimp only at hi hov;obtain⟨css,hc1,hc2,hc3⟩:=id hov;have hc4:(xs.take i).length=i:=by rw[List.length_take];omega
 have hc2':=hc2;rw[hc4] at hc2';refine af ?_;refine aP (fun hlt=>?_) (fun hlt=>?_)
 · have hil:i<xs.length:=by omega
   obtain⟨b,o,y,nk,nt,a,m,c',ea,en,ec,ha,hy,hrow,hRy⟩:=HK (hps.mv (Mv.ah eg)) hil;obtain⟨k,n,s,hk⟩:=hf y (List.mem_of_getElem? hy)
   have fy:vN (.agg #[.int .i64 y.2.kind,.int .i64 y.2.num,.string (bs y.2.fO),.string (bs y.2.self),.int .i64 nk,.string (bs nt),.slice a m c',.slice ea en ec]) k n s []:=by
    have:=cG.of hRy;rw[hk] at this;have h2:=qe this;rw[hk];exact h2
   refine af ?_;refine Ij 17 15 ?_;refine aG 0 ?_;refine aG 1 ?_;refine aG 2 ?_;refine bC 3 rfl (fun h' e=>cK rfl rfl i rfl ha) ?_;refine aG 4 ?_;refine bC 5 rfl (fun h' e=>az rfl (e.old (hrow 0 _ rfl))) ?_;refine aG 6 ?_;refine aG 7 ?_;refine bC 8 rfl (fun h' e=>cK rfl rfl i rfl ha) ?_;refine aG 9 ?_;refine bC 10 rfl (fun h' e=>bV rfl (e.lC (Av hrow))) ?_;refine Iu 11 ?_;refine cU 12 rfl (aF rfl ((B8 fy))) ?_;rintro w g1 ⟨fw,f1⟩;refine⟨fun _=>f1.of,?_⟩;obtain⟨nk',nt',pa',ma',ca',qa',wa',da',rfl⟩:=fw.agg;refine LD 13 rfl (au (H.HL _ _ _ _ _ _ _ _ _) rfl) ?_;refine cU 14 rfl (sH) ?_;rintro _ _ ⟨rfl,rfl⟩;refine⟨fun _=>(Ext.push _ _ _),?_⟩;refine cU 15 rfl (wC rfl rfl ((aB.DC hc2' f1)) rfl rfl (by omega) (by have:=eg.size;have:=f1.size;omega)) ?_;rintro v6 g3 ⟨ho6,hx6,hx6',hv6⟩;refine⟨nofun,?_⟩;have hy6:eB.R g1 (fun b=>cu ov.ownBlock b\/False) (.string (bs y.1)::iG k n s [] nk' nt' pa' ma' ca' qa' wa' da') y:=⟨_,rfl,by rw[hk];exact fw.cells g1 _⟩
   have eg1:=eg.trans f1;have hox:cy eB (fun _=>False) g3 h.size 77 v6 (xs.take i++[y]):=cy.fC (css:=css) hc1 (fun i cs x q1 q2=>eB.mv (hc3 i cs x q1 q2) (Mv.cg f1 fun b hb q=>⟨fun k=>k,q⟩)) (by rw[hc4];exact ho6) hx6 hv6 hy6;have zz:=And.intro eg.size (And.intro f1.size hx6.size);refine aG 16 ?_;refine gV ?_;refine af ?_;exact ih (i+1,v6) ⟨hil,⟨by omega,fun b hb _=>((hx6.block b (by omega) (fun q=>by have:=(hc2.lt q.symm).1;omega)).trans (f1.block b (by omega) (fun k=>k))).trans (eg.block b hb (fun k=>k))⟩,by show cy eB (fun _=>False) g3 h.size 77 v6 (xs.take (i+1));rw[List.take_add_one,hy];exact hox⟩
 · obtain rfl:i=xs.length:=by omega
   rw[List.take_length] at hov;refine af ?_;refine bh ?_;exact⟨_,rfl,hov.read (fun _ _ q=>q) (fun _ _ q=>q),eg⟩
theorem BJ {w:Value}(fv:vN v k n s []) (fw:vN w k n s []) :
 av Tryz.prog 10 #[v,w] h (bq fun r h'=>r= .bool true/\aq h h'):=by
 obtain⟨a,c,ea,ec,rfl,hnd,_⟩:=fv.Ld;obtain⟨a2,c2,ea2,ec2,rfl,hnd2,_⟩:=fw.Ld;refine bP ?_;refine af ?_;refine xo rfl (iF) ?_;rintro _ h1 ⟨rfl,k2,e1,z1⟩;refine xo rfl (iF) ?_;rintro _ h2 ⟨rfl,k3,e2,z2⟩;have k2:aC h2 h.size 30 (iG k n s [] 0 [] a 0 c ea 0 ec):=k2.ah e2;have k3:aC h2 h1.size 41 (iG k n s [] 0 [] a2 0 c2 ea2 0 ec2):=k3;have r2:Lw.rowAt h2 h.size 4 [.int .i64 0,.string (bs []),.slice a 0 c]:=nK (a:=[_,_,_,_]) (m:=[_,_,_]) (c:=[_]) k2;have r3:Lw.rowAt h2 h1.size 4 [.int .i64 0,.string (bs []),.slice a2 0 c2]:=nK (a:=[_,_,_,_]) (m:=[_,_,_]) (c:=[_]) k3;have zz:=And.intro e1.size e2.size;have l2:=k2.lt;have l3:=k3.lt;refine aZ ?_;refine cV ?_;refine aR ?_;refine Ij 44 44 ?_;refine aG 0 ?_;refine bC 1 rfl (fun h' e=>az rfl (e.old (k2.cell (i:=0) rfl))) ?_;refine aG 2 ?_;refine bC 3 rfl (fun h' e=>az rfl (e.old (k3.cell (i:=0) rfl))) ?_;refine aG 4 ?_;refine aG 5 ?_;refine RD.ck (d:=10) (b':=true) rfl (decide_eq_true (by rfl)) ?_;refine aG 6 ?_;refine bC 7 rfl (fun h' e=>az rfl (e.old (k2.cell (i:=1) rfl))) ?_;refine aG 8 ?_;refine bC 9 rfl (fun h' e=>az rfl (e.old (k3.cell (i:=1) rfl))) ?_;refine aG 10 ?_;refine aG 11 ?_;refine aG 12 ?_;refine RD.ck (d:=17) (b':=true) rfl (decide_eq_true (by rfl)) ?_;refine aG 13 ?_;refine bC 14 rfl (fun h' e=>az rfl (e.old (k2.cell (i:=2) rfl))) ?_;refine aG 15 ?_;refine bC 16 rfl (fun h' e=>az rfl (e.old (k3.cell (i:=2) rfl))) ?_;refine aG 17 ?_;refine aG 18 ?_;refine aG 19 ?_;refine RD.ck (d:=24) (b':=true) rfl (decide_eq_true (by rfl)) ?_;refine aG 20 ?_;refine bC 21 rfl (fun h' e=>az rfl (e.old (k2.cell (i:=3) rfl))) ?_;refine aG 22 ?_;refine bC 23 rfl (fun h' e=>az rfl (e.old (k3.cell (i:=3) rfl))) ?_;refine aG 24 ?_;refine aG 25 ?_;refine aG 26 ?_;refine RD.ck (d:=31) (b':=true) rfl (decide_eq_true (by rfl)) ?_;refine aG 27 ?_;refine bC 28 rfl (fun h' e=>bV rfl (e.lC r2)) ?_;refine aG 30 ?_;refine bC 31 rfl (fun h' e=>bV rfl (e.lC r3)) ?_;refine cU 29 rfl (aF rfl (nH (by decide) (hnd h2 (fun _=>False)))) ?_;rintro dv g1 ⟨f1,hd⟩;refine⟨fun _=>f1.of,?_⟩;refine cU 32 rfl (aF rfl (Au hd (hnd2 g1 (fun _=>False)))) ?_;rintro _ g2 ⟨rfl,f2⟩;refine⟨fun _=>f2.of,?_⟩;refine aG 33 ?_;refine aG 34 ?_;refine RD.ck (d:=39) (b':=true) rfl (rfl) ?_;refine aG 35 ?_;refine bC 36 rfl (fun h' e=>az rfl (e.cell (by dsimp only;omega) ((k2.ah (f1.trans f2)).cell (i:=7) rfl))) ?_;refine aG 37 ?_;refine aG 38 ?_;refine bC 39 rfl (fun h' e=>az rfl (e.cell (by dsimp only;omega) ((k3.ah (f1.trans f2)).cell (i:=7) rfl))) ?_;refine aG 40 ?_;refine aG 41 ?_;refine aG 42 ?_;refine aG 43 ?_;refine gV ?_;refine bh ?_;exact⟨_,rfl,rfl,(e1.trans e2).trans (f1.trans f2)⟩
end
end Go.Proofs.YtdgckfkoihcmjaaGreatDoor
