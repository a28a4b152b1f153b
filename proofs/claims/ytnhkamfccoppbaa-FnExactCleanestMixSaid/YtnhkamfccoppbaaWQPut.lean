-- Cut to what this seat's claims want (wip/press/pack.py) of the words that print.sh lays.
import Derived.Test.YtnhkamfccoppbaaWWords
import Derived.Test.YtnhkamfccoppbaaWLast
